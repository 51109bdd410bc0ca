/- Several texts of our own in one: B1, B4, B5, Q49, E36, P10, P11, B6, Q35, Q50, B7, E37, B8, B9, B2, V3, B3. -/
import Derived.Lib.AppendZeros
import Derived.Maps.AppendAt
import Derived.Shelf.Abstract
import Derived.WalkKit
import Derived.OwnWalkIn
import Derived.TacticsInMore
import Derived.LoopNIn
import Derived.LoopIn
import Derived.Test.YtdbebmmhdefgdaaGreatProg
import Derived.Sort.QuietTacIn
import Derived.Test.YtdbebmmhdefgdaaGreatD5
set_option linter.unusedVariables false
set_option linter.unusedSimpArgs false
namespace Go.Proofs.YtdbebmmhdefgdaaGreat
open Go Go.Eng Go.Pure
open Tryz
set_option maxRecDepth 100000
theorem zD {B:Nat} {w0:World} {R:List Row} {tu so od sz:Int} (ht:0≤tu∧tu≤3) (hp:(0≤so∧so≤2)∧(od=0∨od=1)∧(1≤sz∧sz≤16777216)):
  Ct Tryz.prog 23 #[.agg #[I tu,I so,I od,I sz]] B w0 (R) (fun v R'=>v= .bool true∧R'=R):=by
 refine fn1 Tryz.func23 Z Z Z ?_
 refine wq<|wa (dV (sz:=4) Z Z) ?_
 rintro _ _ ⟨g_1,rfl,rfl⟩
 refine wg Z<|aA<|wq<|wy (aC (off:=0) (m:=0) underlying27 Z sz3 Z Z Z)<|wy (aK (rdr 0 Z) underlying3 Z Z Z)<|wy (Yl.t (jS Z Z) (by omega))<|wm Z<|aB Z Z<|wy (aC (off:=0) (m:=0) underlying27 Z sz3 Z Z Z)<|aB Z Z<|wy (aK (rdr 0 Z) underlying3 Z Z Z)<|aB Z Z<|wy (Yl.t (vL Z Z) (by omega))<|wy (aT Z Z) ?_
 refine wm Z<|aB Z Z<|wy (aC (off:=1) (m:=1) underlying27 Z sz3 Z Z Z)<|aB Z Z<|wy (aK (rdr 0 Z) underlying3 Z Z Z)<|aB Z Z<|wy (Yl.t (jS Z Z) (by omega))<|wy (aT Z Z)<|wm Z<|aB Z Z<|wy (aC (off:=1) (m:=1) underlying27 Z sz3 Z Z Z)<|aB Z Z<|wy (aK (rdr 0 Z) underlying3 Z Z Z)<|aB Z Z<|wy (Yl.t (fG Z Z) (by omega)) ?_
 refine wy (aT Z Z)<|wm Z<|aB Z Z<|wy (aC (off:=2) (m:=2) underlying27 Z sz3 Z Z Z)<|aB Z Z<|wy (aK (rdr 0 Z) underlying3 Z Z Z)<|aB Z Z<|wy (dI Z Z)<|aB Z Z<|wm Z<|cZ 4 [(1, .pointer (GG g_1)),(21, .bool true),(29, .bool (decide ((od=0)∨(od=1))))] (⟨27,4,(GG g_1),1,1,[I tu,I so,I od,I sz],false⟩::R) ?_ ?_
 ·refine bR 25 Z (fun hc1=> ?_) (fun hc1=> ?_)
  ·refine aO Z Z Z Z<|aO Z Z Z Z<|aO Z Z Z Z<|aB Z Z<|wy (aT Z Z)<|aA ?_
   exact⟨(sc Z (sc Z (Sub.to Z mtA Sub.nil))),fun _ h=>h⟩
  ·refine aB Z Z<|wy (aC (off:=2) (m:=2) underlying27 Z sz3 Z Z Z)<|aB Z Z<|wy (aK (rdr 0 Z) underlying3 Z Z Z)<|aB Z Z<|wy (dI Z Z)<|aB Z Z<|wy (aP Z Z)<|aA ?_
   exact⟨(sc Z (sc Z (Sub.to Z mbA Sub.nil))),fun _ h=>h⟩
 refine pQ 29 Z (hp.2.1)<|wy (aT Z Z)<|wm Z<|aB Z Z<|wy (aC (off:=3) (m:=3) underlying27 Z sz3 Z Z Z)<|aB Z Z<|wy (aK (rdr 0 Z) underlying3 Z Z Z)<|aB Z Z<|wy (Yl.t (jS Z Z) (by omega))<|wy (aT Z Z)<|wm Z<|aB Z Z<|wy (aC (off:=3) (m:=3) underlying27 Z sz3 Z Z Z)<|aB Z Z<|wy (aK (rdr 0 Z) underlying3 Z Z Z) ?_
 refine aB Z Z<|wy (Yl.t (vL Z Z) (by omega))<|wy (aT Z Z)<|wg Z<|aA<|bA [] 1 (by decide) Z ?_
 refine⟨_,Z,?_⟩
 exact⟨Z,Z⟩
theorem WP {B:Nat} {w0:World} {R:List Row} {A_u:Option Addr} {n_u c_u:Nat} {u:List Int} {so od sz:Int} (h_u:RdC B w0 R A_u n_u c_u 1 (ints .u8 u)) (hn_u:n_u=u.length) (bh_u:aN u) (hN:u.length≤100000) (hp:(0≤so∧so≤2)∧(od=0∨od=1)∧(1≤sz∧sz≤16777216)):
  Ct Tryz.prog 74 #[.slice A_u n_u c_u, .slice none 0 0, .agg #[I 0,I so,I od,I sz]] B w0 (R) (fun v R'=>v= .tuple #[.slice none 0 0, .slice A_u n_u c_u]∧R'=R):=by
 subst hn_u
 refine fn2 Tryz.func74 Z Z Z ?_
 refine wq<|wa (dV (sz:=4) Z Z) ?_
 rintro _ _ ⟨g_1,rfl,rfl⟩
 refine wg Z<|wg Z<|aA<|aG<|wq<|wy (aC (off:=0) (m:=0) underlying27 Z sz3 Z Z Z)<|wy (aK (rdr 0 Z) underlying3 Z Z Z)<|aA<|aI<|wq<|wy (Yl.f (dI Z Z) (by decide))<|wg Z<|aA ?_
 refine aQ Z<|wq<|wy (Yl.f (dI Z Z) (by decide))<|wg Z<|aA<|aQ Z<|wq<|wy (Yl.f (dI Z Z) (by decide))<|wg Z<|aA<|aQ Z<|aJ<|aG ?_
 refine aL<|wm Z<|wg Z<|wg Z<|aA<|bA [] 1 (by decide) Z ?_
 refine⟨_,_,Z,Z,?_⟩
 exact⟨Z,Z⟩
theorem WO {B:Nat} {w0:World} {R:List Row} {A_u:Option Addr} {n_u c_u:Nat} {u:List Int} {so od sz:Int} (h_u:RdC B w0 R A_u n_u c_u 1 (ints .u8 u)) (hn_u:n_u=u.length) (bh_u:aN u) (hN:u.length≤100000) (hp:(0≤so∧so≤2)∧(od=0∨od=1)∧(1≤sz∧sz≤16777216)):
  Ct Tryz.prog 74 #[.slice A_u n_u c_u, .slice none 0 0, .agg #[I 1,I so,I od,I sz]] B w0 (R) (fun v R'=> ∃(b1:List Int) (A1:Option Addr) (c1:Nat) (A2:Option Addr) (c2:Nat),v= .tuple #[.slice A1 (bQ (zat b1)).length c1, .slice A2 (ofL u b1).length c2]∧b1.Perm (iota u.length)∧b1.Pairwise (bU u)∧R'=(ru 5 A1 ((bQ (zat b1)).length) c1 (bQ (zat b1)))::(ru 5 A2 ((ofL u b1).length) c2 (ofL u b1))::R):=by
 subst hn_u
 refine fn2 Tryz.func74 Z Z Z ?_
 refine wq<|wa (dV (sz:=4) Z Z) ?_
 rintro _ _ ⟨g_1,rfl,rfl⟩
 refine wg Z<|wg Z<|aA<|aG<|wq<|wy (aC (off:=0) (m:=0) underlying27 Z sz3 Z Z Z)<|wy (aK (rdr 0 Z) underlying3 Z Z Z)<|aA<|aI<|wq<|wy (Yl.t (dI Z Z) (by decide))<|wg Z<|aA ?_
 refine dB Z<|aG<|bT mixed<|wD 1 Z (aC (off:=1) (m:=1) underlying27 Z sz3 Z Z Z)<|wD 2 Z (aK (rdr 0 Z) underlying3 Z Z Z)<|wD 3 Z (aM Z)<|fO 0 Z (by kernel_rfl) Z (aD bEa Z (Ct.fresh (fun w hw=>UU))) ?_
 rintro _ _ ⟨_,rfl,g_3,rfl,rfl⟩
 refine⟨.inr fun _ h=>h.right (R':=[_]),?_⟩
 refine fO 4 Z (by kernel_rfl) Z (aD bDt Z ((CU (RdC.right h_u [_]) (by first|rfl|(simp;done)|omega) bh_u hN (by decide)))) ?_
 rintro _ _ ⟨b1,A_4,c_5,e1,d0,d1,d2,rfl,hso,rfl⟩
 obtain⟨_,hso3⟩:=hso.resolve_left (fun h=>absurd h.1 (by omega))
 refine⟨.inl (by kernel_rfl),?_⟩
 refine wD 5 Z (aM Z)<|wD 6 Z (zN Z Z)<|wD 7 Z (zN Z Z)<|wD 8 Z (bV Z)<|wD 9 Z (bV Z)<|bP (by kernel_rfl)<|wq<|wm Z<|wm Z<|wa (aD bCm Z (Ct.fresh (fun w hw=>aYr ((RdC.right h_u [_,_,_]) w hw) ((rdr 0 Z) w hw) hso3.2.1 (by omega)))) ?_
 rintro _ _ ⟨_,rfl,A_7,c_8,rfl,rfl⟩
 refine wm Z<|wX Z Z<|wX Z Z<|wX Z Z<|wg Z<|wg Z<|wg Z<|aA<|wq<|wm Z<|wa (aD KE Z (Ct.fresh (fun w hw=>kK (by have e1:=nJ hso3.2.1 hso3.2.2.1;have e2:=FB (s:=u) (k:=0) (by omega);omega)))) ?_
 rintro _ _ ⟨_,rfl,A_10,c_11,rfl,rfl⟩
 refine wm Z<|wg Z<|wg Z<|aA<|bA [0,1] 5 (by decide) Z ?_
 refine⟨_,_,Z,Z,?_⟩
 exact⟨b1,_,_,_,_,Z,hso3.2.1,hso3.2.2.1,Z⟩
theorem WN {B:Nat} {w0:World} {R:List Row} {A_u:Option Addr} {n_u c_u:Nat} {u:List Int} {so od sz:Int} (h_u:RdC B w0 R A_u n_u c_u 1 (ints .u8 u)) (hn_u:n_u=u.length) (bh_u:aN u) (hN:u.length≤100000) (hp:(0≤so∧so≤2)∧(od=0∨od=1)∧(1≤sz∧sz≤16777216)):
  Ct Tryz.prog 74 #[.slice A_u n_u c_u, .slice none 0 0, .agg #[I 2,I so,I od,I sz]] B w0 (R) (fun v R'=> ∃(l1:List (Int × Int)) (A1:Option Addr) (c1:Nat),v= .tuple #[.slice none 0 0, .slice A1 l1.length c1]∧l1.Perm (jD (bws u) (bws u).length)∧l1.Pairwise (qV (bws u))∧R'=(ru 5 A1 l1.length c1 (l1.map (lastB (bws u))))::R):=by
 subst hn_u
 refine fn2 Tryz.func74 Z Z Z ?_
 refine wq<|wa (dV (sz:=4) Z Z) ?_
 rintro _ _ ⟨g_1,rfl,rfl⟩
 refine wg Z<|wg Z<|aA<|aG<|wq<|wy (aC (off:=0) (m:=0) underlying27 Z sz3 Z Z Z)<|wy (aK (rdr 0 Z) underlying3 Z Z Z)<|aA<|aI<|wq<|wy (Yl.f (dI Z Z) (by decide))<|wg Z<|aA ?_
 refine aQ Z<|wq<|wy (Yl.t (dI Z Z) (by decide))<|wg Z<|aA<|dB Z<|wq<|wm Z<|wa (aD bCx Z (Ct.fresh (fun w hw=>ZZ ((RdC.right h_u [_]) w hw) bh_u hN))) ?_
 rintro _ _ ⟨_,rfl,l1,A_3,c_4,rfl,hpt_l1,hst_l1,rfl⟩
 refine wm Z<|wX Z Z<|wX Z Z<|wg Z<|wg Z<|aA<|wq<|wm Z<|wg Z<|wg Z<|aA<|bA [0] 2 (by decide) Z ?_
 refine⟨_,_,Z,Z,?_⟩
 exact⟨l1,_,_,Z,hpt_l1,hst_l1,Z⟩
theorem aId {B:Nat} {w0:World} {R:List Row} {A_u:Option Addr} {n_u c_u:Nat} {u:List Int} {so od sz:Int} (h_u:RdC B w0 R A_u n_u c_u 1 (ints .u8 u)) (hn_u:n_u=u.length) (bh_u:aN u) (hN:u.length≤100000) (hp:(0≤so∧so≤2)∧(od=0∨od=1)∧(1≤sz∧sz≤16777216)):
  Ct Tryz.prog 41 #[.slice A_u n_u c_u, .slice none 0 0, .agg #[I 0,I so,I od,I sz]] B w0 (R) (fun v R'=> ∃(A1:Option Addr) (c1:Nat),v= .slice A1 (dO 0 od u).length c1∧R'=(ru 5 A1 ((dO 0 od u).length) c1 (dO 0 od u))::R):=by
 subst hn_u
 refine fn1 Tryz.func41 Z Z Z ?_
 refine wq<|wa (dV (sz:=4) Z Z) ?_
 rintro _ _ ⟨g_1,rfl,rfl⟩
 refine wg Z<|aA<|wq<|wm Z<|wm Z<|wy (dZ (vs:=[I 0,I so,I od,I sz]) (rdr 0 Z) underlying27 Z gL Z Z (Nat.le_of_ble_eq_true Z) Z)<|wa (aD aYi Z (WP (RdC.right h_u [_]) (by first|rfl|(simp;done)|omega) bh_u hN hp)) ?_
 rintro _ _ ⟨rfl,rfl⟩
 have hle:(u).length=u.length:=rfl
 have hpk:=nX (b:=u) (o:=od) bh_u
 have hl1:=fB 2 (u.length:Int) (by omega)
 have hl3:=fB 2 ((dJ u od).length:Int) (by omega)
 refine wm Z<|wX Z Z<|wX Z Z<|wg Z<|wg Z<|aA<|wq<|wm Z<|wy (aC (off:=2) (m:=2) underlying27 Z sz3 Z Z Z)<|wy (aK (rdr 0 Z) underlying3 Z Z Z)<|wa (aD aTs Z (Ct.fresh (fun w hw=>vE ((RdC.right h_u [_]) w hw) bh_u hp.2.1 (by omega)))) ?_
 rintro _ _ ⟨_,rfl,A_3,c_4,rfl,rfl⟩
 refine wm Z<|wX Z Z<|wX Z Z<|wg Z<|wg Z<|aA<|wq<|wm Z<|wy (aR underlying22 Z)<|wa (aD KE Z (Ct.fresh (fun w hw=>kK (by omega)))) ?_
 rintro _ _ ⟨_,rfl,A_6,c_7,rfl,rfl⟩
 refine wm Z<|wm Z<|wy (aR underlying22 Z)<|wa (aD KE Z (Ct.fresh (fun w hw=>kK (by omega)))) ?_
 rintro _ _ ⟨_,rfl,A_9,c_10,rfl,rfl⟩
 refine wa (aD aHc Z (Ct.fresh (fun w hw=>oF))) ?_
 rintro _ _ ⟨_,rfl,g_12,rfl,rfl⟩
 refine wm Z<|wa (nG [Value.slice A_u u.length c_u] underlying23 wV Z Z Z Z) ?_
 rintro _ _ ⟨g_14,rfl,rfl⟩
 refine wa (aD aHb Z (Ct.at 1 Z (oD (ls:=[u]) (.inl ⟨Z,Z,List.length_replicate ..,by omega⟩) (rdr 0 rfl) rfl (wT.one (l:=u) (RdC.right h_u [_,_,_,_,_]) bh_u (by first|rfl|simp|(simp[upd];done))) (Big.one (by first|omega|decide|simp))))) ?_
 rintro _ _ ⟨rfl,rfl⟩
 refine wa (aD aYh Z (Ct.fresh (fun w hw=>II ⟨by unfold bv;omega,by unfold bv;have:=(jP ([u]).flatten).isLt;omega⟩))) ?_
 rintro _ _ ⟨_,rfl,A_15,c_16,rfl,rfl⟩
 refine wm Z<|wa (nG [Value.slice A_6 ((bQ ((u.length:Nat):Int)).length) c_7,Value.slice none 0 0,Value.slice A_9 ((bQ (((dJ u od).length:Nat):Int)).length) c_10,Value.slice A_15 4 c_16,Value.slice A_3 ((dJ u od).length) c_4] underlying23 wV Z Z Z Z) ?_
 rintro _ _ ⟨g_19,rfl,rfl⟩
 refine wa (aD KD Z (Ct.fresh (fun w hw=>jQ ((rdr 0 Z) w hw) ((((((jE _ _).snoc ((rdr 5 Z) w hw) (fun x hx=>fM ((eY (by omega)) x hx)) (by omega)).snoc ((XO _) w hw) (fun x hx=>by cases hx) (by decide)).snoc ((rdr 4 rfl) w hw) (fun x hx=>fM ((eY (by omega)) x hx)) (by omega)).snoc ((rdr 1 rfl) w hw) (fun x hx=>fM ((iV _) x hx)) (by show(4:Nat)≤_;decide)).snoc ((rdr 6 rfl) w hw) (fun x hx=>fM ((gJ _ _) x hx)) (by omega)) ⟨by simp only[List.length_flatten,List.nil_append,List.cons_append,List.singleton_append,List.map_cons,List.map_nil,List.sum_cons,List.sum_nil,List.length_nil];have h4:(iE (bv (jP ([u]).flatten))).length=4:=rfl;omega,by simp⟩))) ?_
 rintro _ _ ⟨_,rfl,A_20,c_21,rfl,rfl⟩
 refine wg Z<|aA<|bA [0] 9 (by decide) Z ?_
 refine⟨_,Z,?_⟩
 have e:([bQ ((u.length:Nat):Int),[],bQ (((dJ (u) od).length:Nat):Int),iE (bv (jP ([u]).flatten)),dJ (u) od]).flatten=dO 0 od u:=by
  unfold dO
  rw[QO (t:=0) (u:=u) (by decide) (by decide)]
  simp
 rw[←e]
 exact⟨_,_,Z,Z⟩
theorem aIc {B:Nat} {w0:World} {R:List Row} {A_u:Option Addr} {n_u c_u:Nat} {u:List Int} {so od sz:Int} (h_u:RdC B w0 R A_u n_u c_u 1 (ints .u8 u)) (hn_u:n_u=u.length) (bh_u:aN u) (hN:u.length≤100000) (hp:(0≤so∧so≤2)∧(od=0∨od=1)∧(1≤sz∧sz≤16777216)):
  Ct Tryz.prog 41 #[.slice A_u n_u c_u, .slice none 0 0, .agg #[I 1,I so,I od,I sz]] B w0 (R) (fun v R'=> ∃(A1:Option Addr) (c1:Nat),v= .slice A1 (dO 1 od u).length c1∧R'=(ru 5 A1 ((dO 1 od u).length) c1 (dO 1 od u))::R):=by
 subst hn_u
 refine fn1 Tryz.func41 Z Z Z ?_
 refine wq<|wa (dV (sz:=4) Z Z) ?_
 rintro _ _ ⟨g_1,rfl,rfl⟩
 refine wg Z<|aA<|wq<|wm Z<|wm Z<|wy (dZ (vs:=[I 1,I so,I od,I sz]) (rdr 0 Z) underlying27 Z gL Z Z (Nat.le_of_ble_eq_true Z) Z)<|wa (aD aYi Z (WO (RdC.right h_u [_]) (by first|rfl|(simp;done)|omega) bh_u hN hp)) ?_
 rintro _ _ ⟨b1,A_3,c_4,A_6,c_7,rfl,hp_b1,hs_b1,rfl⟩
 have hle:(ofL u b1).length=u.length:=(by rw[(GL hp_b1 hs_b1).length_eq])
 have hpk:=nX (b:=ofL u b1) (o:=od) (yB bh_u hp_b1)
 have hl1:=fB 2 (u.length:Int) (by omega)
 have hl3:=fB 2 ((dJ (ofL u b1) od).length:Int) (by omega)
 have hz:0≤zat b1∧zat b1≤100000:=by have e1:=nJ hp_b1 hs_b1;have e2:=FB (s:=u) (k:=0) (by omega);omega
 have hl2:=fB 2 (zat b1) (by omega)
 refine wm Z<|wX Z Z<|wX Z Z<|wg Z<|wg Z<|aA<|wq<|wm Z<|wy (aC (off:=2) (m:=2) underlying27 Z sz3 Z Z Z)<|wy (aK (rdr 2 Z) underlying3 Z Z Z)<|wa (aD aTs Z (Ct.fresh (fun w hw=>vE ((rdr 1 Z) w hw) (yB bh_u hp_b1) hp.2.1 (by omega)))) ?_
 rintro _ _ ⟨_,rfl,A_9,c_10,rfl,rfl⟩
 refine wm Z<|wX Z Z<|wX Z Z<|wg Z<|wg Z<|aA<|wq<|wm Z<|wy (aR underlying22 Z)<|wa (aD KE Z (Ct.fresh (fun w hw=>kK (by omega)))) ?_
 rintro _ _ ⟨_,rfl,A_12,c_13,rfl,rfl⟩
 refine wm Z<|wm Z<|wy (aR underlying22 Z)<|wa (aD KE Z (Ct.fresh (fun w hw=>kK (by omega)))) ?_
 rintro _ _ ⟨_,rfl,A_15,c_16,rfl,rfl⟩
 refine wa (aD aHc Z (Ct.fresh (fun w hw=>oF))) ?_
 rintro _ _ ⟨_,rfl,g_18,rfl,rfl⟩
 refine wm Z<|wa (nG [Value.slice A_u u.length c_u] underlying23 wV Z Z Z Z) ?_
 rintro _ _ ⟨g_20,rfl,rfl⟩
 refine wa (aD aHb Z (Ct.at 1 Z (oD (ls:=[u]) (.inl ⟨Z,Z,List.length_replicate ..,by omega⟩) (rdr 0 rfl) rfl (wT.one (l:=u) (RdC.right h_u [_,_,_,_,_,_,_]) bh_u (by first|rfl|simp|(simp[upd];done))) (Big.one (by first|omega|decide|simp))))) ?_
 rintro _ _ ⟨rfl,rfl⟩
 refine wa (aD aYh Z (Ct.fresh (fun w hw=>II ⟨by unfold bv;omega,by unfold bv;have:=(jP ([u]).flatten).isLt;omega⟩))) ?_
 rintro _ _ ⟨_,rfl,A_21,c_22,rfl,rfl⟩
 refine wm Z<|wa (nG [Value.slice A_12 ((bQ ((u.length:Nat):Int)).length) c_13,Value.slice A_3 ((bQ (zat b1)).length) c_4,Value.slice A_15 ((bQ (((dJ (ofL u b1) od).length:Nat):Int)).length) c_16,Value.slice A_21 4 c_22,Value.slice A_9 ((dJ (ofL u b1) od).length) c_10] underlying23 wV Z Z Z Z) ?_
 rintro _ _ ⟨g_25,rfl,rfl⟩
 refine wa (aD KD Z (Ct.fresh (fun w hw=>jQ ((rdr 0 Z) w hw) ((((((jE _ _).snoc ((rdr 5 Z) w hw) (fun x hx=>fM ((eY (by omega)) x hx)) (by omega)).snoc ((rdr 7 Z) w hw) (fun x hx=>fM ((eY hz.1) x hx)) (by omega)).snoc ((rdr 4 Z) w hw) (fun x hx=>fM ((eY (by omega)) x hx)) (by omega)).snoc ((rdr 1 Z) w hw) (fun x hx=>fM ((iV _) x hx)) (by show(4:Nat)≤_;decide)).snoc ((rdr 6 Z) w hw) (fun x hx=>fM ((gJ _ _) x hx)) (by omega)) ⟨by simp only[List.length_flatten,List.nil_append,List.cons_append,List.singleton_append,List.map_cons,List.map_nil,List.sum_cons,List.sum_nil,List.length_nil];have h4:(iE (bv (jP ([u]).flatten))).length=4:=rfl;omega,by simp⟩))) ?_
 rintro _ _ ⟨_,rfl,A_26,c_27,rfl,rfl⟩
 refine wg Z<|aA<|bA [0] 11 (by decide) Z ?_
 refine⟨_,Z,?_⟩
 have e:([bQ ((u.length:Nat):Int),bQ (zat b1),bQ (((dJ (ofL u b1) od).length:Nat):Int),iE (bv (jP ([u]).flatten)),dJ (ofL u b1) od]).flatten=dO 1 od u:=by
  unfold dO
  rw[QP hp_b1 hs_b1]
  simp
 rw[←e]
 exact⟨_,_,Z,Z⟩
theorem aIb {B:Nat} {w0:World} {R:List Row} {A_u:Option Addr} {n_u c_u:Nat} {u:List Int} {so od sz:Int} (h_u:RdC B w0 R A_u n_u c_u 1 (ints .u8 u)) (hn_u:n_u=u.length) (bh_u:aN u) (hN:u.length≤100000) (hp:(0≤so∧so≤2)∧(od=0∨od=1)∧(1≤sz∧sz≤16777216)):
  Ct Tryz.prog 41 #[.slice A_u n_u c_u, .slice none 0 0, .agg #[I 2,I so,I od,I sz]] B w0 (R) (fun v R'=> ∃(A1:Option Addr) (c1:Nat),v= .slice A1 (dO 2 od u).length c1∧R'=(ru 5 A1 ((dO 2 od u).length) c1 (dO 2 od u))::R):=by
 subst hn_u
 refine fn1 Tryz.func41 Z Z Z ?_
 refine wq<|wa (dV (sz:=4) Z Z) ?_
 rintro _ _ ⟨g_1,rfl,rfl⟩
 refine wg Z<|aA<|wq<|wm Z<|wm Z<|wy (dZ (vs:=[I 2,I so,I od,I sz]) (rdr 0 Z) underlying27 Z gL Z Z (Nat.le_of_ble_eq_true Z) Z)<|wa (aD aYi Z (WN (RdC.right h_u [_]) (by first|rfl|(simp;done)|omega) bh_u hN hp)) ?_
 rintro _ _ ⟨l1,A_3,c_4,rfl,hpt_l1,hst_l1,rfl⟩
 have hle:(l1.map (lastB (bws u))).length=u.length:=(by rw[List.length_map,EB hpt_l1])
 have hpk:=nX (b:=l1.map (lastB (bws u))) (o:=od) (nA hpt_l1 (by rw[pK];exact bh_u))
 have hl1:=fB 2 (u.length:Int) (by omega)
 have hl3:=fB 2 ((dJ (l1.map (lastB (bws u))) od).length:Int) (by omega)
 refine wm Z<|wX Z Z<|wX Z Z<|wg Z<|wg Z<|aA<|wq<|wm Z<|wy (aC (off:=2) (m:=2) underlying27 Z sz3 Z Z Z)<|wy (aK (rdr 1 Z) underlying3 Z Z Z)<|wa (aD aTs Z (Ct.fresh (fun w hw=>vE ((rdr 0 Z) w hw) (nA hpt_l1 (by rw[pK];exact bh_u)) hp.2.1 (by omega)))) ?_
 rintro _ _ ⟨_,rfl,A_6,c_7,rfl,rfl⟩
 refine wm Z<|wX Z Z<|wX Z Z<|wg Z<|wg Z<|aA<|wq<|wm Z<|wy (aR underlying22 Z)<|wa (aD KE Z (Ct.fresh (fun w hw=>kK (by omega)))) ?_
 rintro _ _ ⟨_,rfl,A_9,c_10,rfl,rfl⟩
 refine wm Z<|wm Z<|wy (aR underlying22 Z)<|wa (aD KE Z (Ct.fresh (fun w hw=>kK (by omega)))) ?_
 rintro _ _ ⟨_,rfl,A_12,c_13,rfl,rfl⟩
 refine wa (aD aHc Z (Ct.fresh (fun w hw=>oF))) ?_
 rintro _ _ ⟨_,rfl,g_15,rfl,rfl⟩
 refine wm Z<|wa (nG [Value.slice A_u u.length c_u] underlying23 wV Z Z Z Z) ?_
 rintro _ _ ⟨g_17,rfl,rfl⟩
 refine wa (aD aHb Z (Ct.at 1 Z (oD (ls:=[u]) (.inl ⟨Z,Z,List.length_replicate ..,by omega⟩) (rdr 0 rfl) rfl (wT.one (l:=u) (RdC.right h_u [_,_,_,_,_,_]) bh_u (by first|rfl|simp|(simp[upd];done))) (Big.one (by first|omega|decide|simp))))) ?_
 rintro _ _ ⟨rfl,rfl⟩
 refine wa (aD aYh Z (Ct.fresh (fun w hw=>II ⟨by unfold bv;omega,by unfold bv;have:=(jP ([u]).flatten).isLt;omega⟩))) ?_
 rintro _ _ ⟨_,rfl,A_18,c_19,rfl,rfl⟩
 refine wm Z<|wa (nG [Value.slice A_9 ((bQ ((u.length:Nat):Int)).length) c_10,Value.slice none 0 0,Value.slice A_12 ((bQ (((dJ (l1.map (lastB (bws u))) od).length:Nat):Int)).length) c_13,Value.slice A_18 4 c_19,Value.slice A_6 ((dJ (l1.map (lastB (bws u))) od).length) c_7] underlying23 wV Z Z Z Z) ?_
 rintro _ _ ⟨g_22,rfl,rfl⟩
 refine wa (aD KD Z (Ct.fresh (fun w hw=>jQ ((rdr 0 Z) w hw) ((((((jE _ _).snoc ((rdr 5 Z) w hw) (fun x hx=>fM ((eY (by omega)) x hx)) (by omega)).snoc ((XO _) w hw) (fun x hx=>by cases hx) (by decide)).snoc ((rdr 4 rfl) w hw) (fun x hx=>fM ((eY (by omega)) x hx)) (by omega)).snoc ((rdr 1 rfl) w hw) (fun x hx=>fM ((iV _) x hx)) (by show(4:Nat)≤_;decide)).snoc ((rdr 6 rfl) w hw) (fun x hx=>fM ((gJ _ _) x hx)) (by omega)) ⟨by simp only[List.length_flatten,List.nil_append,List.cons_append,List.singleton_append,List.map_cons,List.map_nil,List.sum_cons,List.sum_nil,List.length_nil];have h4:(iE (bv (jP ([u]).flatten))).length=4:=rfl;omega,by simp⟩))) ?_
 rintro _ _ ⟨_,rfl,A_23,c_24,rfl,rfl⟩
 refine wg Z<|aA<|bA [0] 10 (by decide) Z ?_
 refine⟨_,Z,?_⟩
 have e:([bQ ((u.length:Nat):Int),[],bQ (((dJ (l1.map (lastB (bws u))) od).length:Nat):Int),iE (bv (jP ([u]).flatten)),dJ (l1.map (lastB (bws u))) od]).flatten=dO 2 od u:=by
  unfold dO
  rw[QQ hpt_l1 hst_l1]
  simp
 rw[←e]
 exact⟨_,_,Z,Z⟩
theorem TG {B:Nat} {w0:World} {R:List Row} {g:Nat} {A_u:Option Addr} {n_u c_u:Nat} {u:List Int} {k:Int} (h_u:RdC B w0 R A_u n_u c_u 1 (ints .u8 u)) (hn_u:n_u=u.length):
  Ct Tryz.prog 92 #[.pointer (GG g)] B w0 (⟨146,1,(GG g),1,1,[.slice A_u n_u c_u],false⟩::R) (fun v R'=>v=I ((u.length:Nat):Int)∧R'=⟨146,1,(GG g),1,1,[.slice A_u n_u c_u],false⟩::R):=by
 subst hn_u
 refine fn1 Tryz.func92 Z Z Z ?_
 refine wq<|wg Z<|aA<|aG<|wq<|wm Z<|wy (jR underlying84 Z Z)<|aA<|aQ Z<|aJ<|wq<|wm Z ?_
 refine wy (aF Z)<|wy (aC (off:=0) (m:=0) underlying146 Z fP Z Z Z)<|wy (aK (rdr 0 Z) underlying22 Z Z Z)<|wy (aR underlying22 Z)<|wg Z<|aA<|bX (R1:=(⟨146,1,(GG g),1,1,[.slice A_u u.length c_u],false⟩::R)) (fun _ h=>h) ?_
 refine⟨_,Z,?_⟩
 exact⟨Z,Z⟩
theorem yD {B:Nat} {w0:World} {R:List Row} {g gc:Nat} {A_u At:Option Addr} {n_u c_u nt ct:Nat} {u:List Int} {p0 p1 p2 p3 ms tt ls V:Int} {m:Nat} (h_u:RdC B w0 R A_u n_u c_u 1 (ints .u8 u)) (hn_u:n_u=u.length) (hN:u.length≤1000000) (bh_u:aN u) (hG:sP u V m) (hm:V≤9223372036854775807):
  Ct Tryz.prog 90 #[.pointer (GG g)] B w0 (⟨87,10,(GG g),1,1,[.pointer (GG gc),I p0,I p1,I p2,I p3,I ms,I tt,I ls, .slice At nt ct, .slice none 0 0],false⟩::⟨146,1,(GG gc),1,1,[.slice A_u n_u c_u],false⟩::R) (fun v R'=>v= .tuple #[I V, .bool true]∧R'=⟨87,10,(GG g),1,1,[.pointer (GG gc),I p0,I p1,I p2,I p3,I ms,I tt,I ls, .slice At nt ct, .slice none 0 0],false⟩::⟨146,1,(GG gc),1,1,[.slice (jB A_u m c_u 1) (n_u-m) (c_u-m)],false⟩::R):=by
 subst hn_u
 refine fn2 Tryz.func90 Z Z Z ?_
 refine wq<|wg Z<|wg Z<|aA<|wq<|wm Z<|wy (aF Z)<|wy (aC (off:=0) (m:=0) underlying87 Z WW Z Z Z)<|wy (aK (rdr 0 Z) underlying84 Z Z Z)<|wa (aD bCe Z (Ct.pick [1,0] 2 (by decide) Z (NY (RdC.right h_u [_]) Z hN bh_u hG hm (by decide)))) ?_
 rintro _ _ ⟨rfl,rfl⟩
 refine wX Z Z<|wX Z Z<|wg Z<|wg Z<|aA<|bA [1,0] 2 (by decide) Z ?_
 refine⟨_,_,Z,Z,?_⟩
 exact⟨Z,Z⟩
end Go.Proofs.YtdbebmmhdefgdaaGreat

namespace Go.Proofs.YtdbebmmhdefgdaaGreat
open Go Go.Eng Go.Pure
open Tryz
set_option maxRecDepth 100000
set_option maxHeartbeats 1000000 in
theorem YO {B:Nat} {w0:World} {R:List Row} {g gc:Nat} {A_u At:Option Addr} {n_u c_u nt ct:Nat} {u:List Int} {p0 p1 p2 p3 ms tt ls sz:Int} {b0 b1 b2:Int} {m:Nat} (h_u:RdC B w0 R A_u n_u c_u 1 (ints .u8 u)) (hn_u:n_u=u.length) (hN:u.length≤1000000) (bh_u:aN u) (h5:u.take (5:Int).toNat=[87,72,82,76,1]) (h3:(u.drop (5:Int).toNat).take (3:Int).toNat=[b0,b1,b2]) (hl8:8≤u.length) (hG:sP ((u.drop (5:Int).toNat).drop (3:Int).toNat) sz m) (hpa:0≤b0∧b0≤3) (hpb:(0≤b1∧b1≤2)∧(b2=0∨b2=1)∧(1≤sz∧sz≤16777216)):
  Ct Tryz.prog 89 #[.pointer (GG g)] B w0 (⟨87,10,(GG g),1,1,[.pointer (GG gc),I p0,I p1,I p2,I p3,I ms,I tt,I ls, .slice At nt ct, .slice none 0 0],false⟩::⟨146,1,(GG gc),1,1,[.slice A_u n_u c_u],false⟩::R) (fun v R'=>v= .bool true∧R'=⟨87,10,(GG g),1,1,[.pointer (GG gc),I b0,I b1,I b2,I sz,I ms,I tt,I ls, .slice At nt ct, .slice none 0 0],false⟩::⟨146,1,(GG gc),1,1,[.slice (jB (jB (jB A_u (5:Int).toNat c_u 1) (3:Int).toNat (c_u-(5:Int).toNat) 1) m (c_u-(5:Int).toNat-(3:Int).toNat) 1) (n_u-(5:Int).toNat-(3:Int).toNat-m) (c_u-(5:Int).toNat-(3:Int).toNat-m)],false⟩::R):=by
 subst hn_u
 have hr0:rd ((u.drop (5:Int).toNat).take (3:Int).toNat) 0=b0:=by rw[h3];rfl
 have hr1:rd ((u.drop (5:Int).toNat).take (3:Int).toNat) 1=b1:=by rw[h3];rfl
 have hr2:rd ((u.drop (5:Int).toNat).take (3:Int).toNat) 2=b2:=by rw[h3];rfl
 refine fn1 Tryz.func89 Z Z Z ?_
 refine wq<|wg Z<|aA<|wq<|wm Z<|wy (aF Z)<|wy (aC (off:=0) (m:=0) underlying87 Z WW Z Z Z)<|wy (aK (rdr 0 Z) underlying84 Z Z Z)<|wa (aD aDb Z (Ct.pick [1,0] 2 (by decide) Z (vY (RdC.right h_u [_]) Z hN (by omega)))) ?_
 rintro _ _ ⟨A_1,c_2,rfl,rfl⟩
 refine wm Z<|wX Z Z<|wX Z Z<|wg Z<|wg Z<|aA<|aG<|wq<|wm Z<|wy (dH Z)<|wm Z<|aB Z Z<|wm Z<|aB Z Z ?_
 refine wy (kL underlying22 underlying5 underlying9 Z (rdr 0 Z))<|aB Z Z<|wy (Yl.f (aIt (q:=[87,72,82,76,1]) Z Z (bh_u.take _) (by unfold aN;decide)) (by rw[h5];decide)) ?_
 refine wy (aP Z Z)<|aA<|aQ Z<|aJ<|wq<|wm Z<|wy (aF Z)<|wy (aC (off:=0) (m:=0) underlying87 Z WW Z Z Z)<|wy (aK (rdr 2 Z) underlying84 Z Z Z)<|wa (aD aDb Z (Ct.pick [1,0,2] 3 (by decide) Z (vY (RdC.fromI (RdC.right h_u [_,_]) (by omega)) (by rw[List.length_drop]) (by rw[List.length_drop];omega) (by rw[List.length_drop];omega)))) ?_
 rintro _ _ ⟨A_3,c_4,rfl,rfl⟩
 refine wm Z<|wX Z Z<|wX Z Z<|wg Z<|wg Z<|aA<|wq<|wm Z<|wa (aD PI Z (Ct.pick [3,1,0,2] 4 (by decide) Z (yD (RdC.fromI (RdC.fromI (RdC.right h_u [_,_]) (by omega)) (by omega)) (by rw[List.length_drop,List.length_drop]) (by rw[List.length_drop,List.length_drop];omega) ((bh_u.drop _).drop _) hG (by omega)))) ?_
 rintro _ _ ⟨rfl,rfl⟩
 refine wm Z<|wX Z Z<|wX Z Z<|wg Z<|wg Z<|aA<|aG<|wq<|wm Z<|wy (dH Z)<|wm Z<|aB Z Z<|wm Z<|aB Z Z ?_
 refine wy (dH Z)<|wy (aP Z Z)<|aA<|aQ Z<|aJ<|aG<|bT mixed<|wD 0 Z (aM Z)<|wD 1 Z (aM Z)<|wD 2 Z (aH underlying22 sz5 Z Z (rdr 2 Z) (by omega) (by omega))<|wD 3 Z (aX underlying5 Z Z (rdr 2 Z) (by omega) (by omega))<|wD 4 Z (iY underlying5 underlying3 Z (by omega))<|wD 5 Z (aM Z)<|wD 6 Z (aH underlying22 sz5 Z Z (rdr 2 Z) (by omega) (by omega))<|wD 7 Z (aX underlying5 Z Z (rdr 2 Z) (by omega) (by omega)) ?_
 refine wD 8 Z (iY underlying5 underlying3 Z (by omega))<|wD 9 Z (aM Z)<|wD 10 Z (aH underlying22 sz5 Z Z (rdr 2 Z) (by omega) (by omega))<|wD 11 Z (aX underlying5 Z Z (rdr 2 Z) (by omega) (by omega))<|wD 12 Z (iY underlying5 underlying3 Z (by omega))<|wD 13 Z (aM Z)<|wD 14 Z (dS (v:= .agg #[I (rd (((u).drop (5:Int).toNat).take (3:Int).toNat) 0),I (rd (((u).drop (5:Int).toNat).take (3:Int).toNat) 1),I (rd (((u).drop (5:Int).toNat).take (3:Int).toNat) 2),I sz]) Z (fun w=>by kernel_rfl))<|wD 15 rfl (aF rfl)<|wD 16 rfl (aC (off:=1) (m:=1) underlying87 rfl gL rfl rfl rfl)<|qJ 17 rfl (by kernel_rfl) (JJ (j:=1) (r:=⟨87,10,(GG g),1,1,[.pointer (GG gc),I p0,I p1,I p2,I p3,I ms,I tt,I ls, .slice At nt ct, .slice none 0 0],false⟩) (vs:=[I (rd (((u).drop (5:Int).toNat).take (3:Int).toNat) 0),I (rd (((u).drop (5:Int).toNat).take (3:Int).toNat) 1),I (rd (((u).drop (5:Int).toNat).take (3:Int).toNat) 2),I sz]) 0 rfl rfl rfl gL rfl (by simp[pat,Addr.add]) rfl rfl (by intro v hv;simp at hv;rcases hv with rfl|rfl|rfl|rfl<;>rfl) (Nat.le_of_ble_eq_true rfl)) ?_
 rintro _ _ rfl
 refine⟨.inl (by kernel_rfl),?_⟩
 refine bP (by kernel_rfl)<|wq<|wm Z<|wy (aF Z)<|wy (aC (off:=1) (m:=1) underlying87 Z gL Z Z Z)<|wy (dZ (vs:=[I (rd (((u).drop (5:Int).toNat).take (3:Int).toNat) 0),I (rd (((u).drop (5:Int).toNat).take (3:Int).toNat) 1),I (rd (((u).drop (5:Int).toNat).take (3:Int).toNat) 2),I sz]) (rdr 0 Z) underlying27 Z gL Z Z (Nat.le_of_ble_eq_true Z) Z)<|wa (aD aOf Z (zD (by rw[hr0];exact hpa) (by rw[hr1,hr2];exact hpb))) ?_
 rintro _ _ ⟨rfl,rfl⟩
 refine wg Z<|aA<|bA [0,1] 4 (by decide) Z ?_
 refine⟨_,Z,?_⟩
 rw[hr0,hr1,hr2]
 exact⟨Z,Z⟩
end Go.Proofs.YtdbebmmhdefgdaaGreat

namespace Go.Pure
open Go Go.Eng
def qZ (l:List Int):Int:=l.foldl (fun a d=>a*256+d) 0
theorem AQ (l:List Int) (d:Int):qZ (l++[d])=qZ l*256+d:=by unfold qZ;rw[List.foldl_append];rfl
theorem aFl {x:List Int} {m:Nat} (h:m<x.length):qZ (x.take (m+1))=qZ (x.take m)*256+rd x (m:Int):=by
 have e:=dE (j:=(m:Int)) (show(0:Int)≤m by omega) (show(m:Int)<x.length by omega)
 rw[show((m:Int)+1).toNat=m+1 by omega,Int.toNat_natCast] at e
 rw[e,AQ]
theorem SX: ∀(k:Nat) (N:Int),0≤N→N<256^k→qZ (beL k N)=N
 |0,N,h0,h1=>by rw[Int.pow_zero] at h1;show(0:Int)=N;omega
 |k+1,N,h0,h1=>by
  rw[Int.pow_succ] at h1
  rw[beL,AQ,SX k (N/256) (by omega) (Int.ediv_lt_of_lt_mul (by omega) h1)]
  omega
theorem aOq (N:Int) (m:Nat):N/256/256^m=N/256^(m+1):=by
 rw[Int.pow_succ,Int.mul_comm,Int.ediv_ediv_of_nonneg (by omega)]
theorem VP (a:Nat): ∀(m:Nat) (N:Int),(beL (a+m) N).take a=beL a (N/256^m)
 |0,N=>by rw[Int.pow_zero,Int.ediv_one,Nat.add_zero];exact List.take_of_length_le (by rw[kQ];exact Nat.le_refl _)
 |m+1,N=>by
  rw[show a+(m+1)=(a+m)+1 by omega,beL,List.take_append_of_le_length (by rw[kQ];omega),VP a m (N/256),aOq]
theorem yE: ∀(k:Nat) (l:List Int),l.length=k→aN l→0≤qZ l∧qZ l<256^k
 |0,l,h,_=>by rw[List.eq_nil_of_length_eq_zero h,Int.pow_zero];show(0:Int)≤0∧(0:Int)<1;omega
 | k+1,l,h,hb=>by
  have hl:(k:Int)<l.length:=by omega
  have e:l=l.take k++[rd l (k:Int)]:=by
   have e:=dE (j:=(k:Int)) (show(0:Int)≤k by omega) hl
   rw[show((k:Int)+1).toNat=k+1 by omega,Int.toNat_natCast,List.take_of_length_le (by omega)] at e
   exact e
  have ih:=yE k (l.take k) (by rw[List.length_take];omega) (hb.take _)
  have hd:=hb.rd (k:Int)
  rw[e,AQ,Int.pow_succ]
  omega
structure InC (s f:CdS):Prop where
 k:s.k≤f.k
 lo:s.N*256^(f.k-s.k)≤f.N
 hi:f.N+f.R≤(s.N+s.R)*256^(f.k-s.k)
theorem InC.refl (s:CdS):InC s s:=⟨Nat.le_refl _,by rw[Nat.sub_self,Int.pow_zero,Int.mul_one];exact Int.le_refl _,by rw[Nat.sub_self,Int.pow_zero,Int.mul_one];exact Int.le_refl _⟩
theorem InC.trans {a b c:CdS} (h:InC a b) (g:InC b c):InC a c:=by
 have hk:=h.k
 have gk:=g.k
 have e:c.k-a.k=(b.k-a.k)+(c.k-b.k):=by omega
 have hp:(0:Int)≤256^(c.k-b.k):=Int.pow_nonneg (by omega)
 refine⟨by omega,?_,?_⟩
 ·rw [e,Int.pow_add,←Int.mul_assoc]
  exact Int.le_trans (Int.mul_le_mul_of_nonneg_right h.lo hp) g.lo
 ·rw [e,Int.pow_add,←Int.mul_assoc]
  exact Int.le_trans g.hi (Int.mul_le_mul_of_nonneg_right h.hi hp)
theorem aBv {s:CdS} {low size total:Int} (h:WC s) (hs:uP low size total):InC s (gV s low size total):=by
 obtain⟨r0,r1,n0,nr⟩:=h
 obtain⟨f1,f2,f3,f4,f5⟩:=oN hs ⟨r0,r1⟩
 unfold gV
 generalize hq:s.R/total*size=R1 at*
 generalize hl:s.R/total*low=x at*
 generalize shN R1=j at*
 have hp:(0:Int)≤256^j:=Int.pow_nonneg (by omega)
 refine⟨by dsimp only;omega,?_,?_⟩
 ·show s.N*256^(s.k+j-s.k)≤(s.N+x)*256^j
  rw[show s.k+j-s.k=j by omega]
  exact Int.mul_le_mul_of_nonneg_right (by omega) hp
 ·show (s.N+x)*256^j+R1*256^j≤(s.N+s.R)*256^(s.k+j-s.k)
  rw[show s.k+j-s.k=j by omega,←Int.add_mul]
  exact Int.mul_le_mul_of_nonneg_right (by omega) hp
theorem QY (o:Int) (s:PpS) (x:Int):(kD o s x).cd=sM s.cd (tK o s) x:=by unfold kD aEq;split<;>(try split)<;>rfl
theorem aCq {o:Int}: ∀(l:List Int) (s:PpS),aAj l→KM s→InC s.cd (l.foldl (kD o) s).cd
 |[],s,_,_=>InC.refl _
 |x::l,s,hl,h=>by
  have hx:=hl x (by simp)
  have h1:=EQ (o:=o) h hx.1 hx.2
  have h2:=aCq (o:=o) l (kD o s x) (fun y hy=>hl y (List.mem_cons_of_mem _ hy)) h1.1
  rw[List.foldl_cons]
  refine InC.trans ?_ h2
  rw[QY]
  exact aBv h.2.2 (lL (DN (o:=o) h) hx.1 hx.2)
theorem aQw {s f:CdS} {low size total:Int} (h:WC s) (hs:uP low size total) (hf:InC (gV s low size total) f) (hr:0<f.R):
  s.R/total*low≤f.N/256^(f.k-s.k)-s.N∧f.N/256^(f.k-s.k)-s.N<s.R/total*(low+size):=by
 obtain⟨hk,hlo,hhi⟩:=hf
 unfold gV at hk hlo hhi
 dsimp only at hk hlo hhi
 rw[Int.mul_add]
 generalize s.R/total*size=R1 at*
 generalize s.R/total*low=x at*
 generalize shN R1=j at*
 have e:f.k-s.k=j+(f.k-(s.k+j)):=by omega
 have hp:(0:Int)<256^(f.k-s.k):=Int.pow_pos (by omega)
 rw[Int.mul_assoc,←Int.pow_add,←e] at hlo
 rw[←Int.add_mul,Int.mul_assoc,←Int.pow_add,←e] at hhi
 have h1:=(Int.le_ediv_iff_mul_le (a:=s.N+x) (b:=f.N) hp).2 hlo
 have h2:=Int.ediv_lt_of_lt_mul (a:=f.N) (b:=s.N+x+R1) hp (by omega)
 omega
theorem aOb (o:Int) (l m:List Int):encP o (l++m)=m.foldl (kD o) (encP o l):=by unfold encP;rw[List.foldl_append]
theorem aLq {b:List Int} {o:Int} (h:aN b) {k:Nat} (hk:k≤(encP o (bL b)).cd.k):qZ ((dJ b o).take (k+4))=(encP o (bL b)).cd.N/256^((encP o (bL b)).cd.k-k):=by
 have hc:=(yU (o:=o) (qL h)).1.2.2
 unfold dJ
 generalize (encP o (bL b)).cd=f at*
 obtain⟨r0,r1,n0,nr⟩:=hc
 rw[show f.k+4=(k+4)+(f.k-k) by omega,VP]
 refine SX _ _ (Int.ediv_nonneg n0 (Int.pow_nonneg (by omega))) ?_
 refine Int.ediv_lt_of_lt_mul (Int.pow_pos (by omega)) ?_
 rw[←Int.pow_add,show k+4+(f.k-k)=f.k+4 by omega]
 omega
def cuC (x:List Int) (s:CdS):Int:=qZ (x.take (s.k+4))-s.N
theorem aOt {C q low size:Int} (hq:0<q) (h1:q*low≤C) (h2:C<q*(low+size)):low≤C/q∧C/q<low+size:=
 ⟨(Int.le_ediv_iff_mul_le hq).2 (by rw[Int.mul_comm];exact h1),Int.ediv_lt_of_lt_mul hq (by rw[Int.mul_comm];exact h2)⟩
structure rH (x:List Int) (cd:CdS) (C:List Int) (y:Int):Prop where
 lo:cd.R/aU C*aU (C.take y.toNat)≤cuC x cd
 hi:cuC x cd<cd.R/aU C*(aU (C.take y.toNat)+rd C y)
 c0:0≤cuC x cd
 c1:cuC x cd<4294967296
 v0:aU (C.take y.toNat)≤cuC x cd/(cd.R/aU C)
 v1:cuC x cd/(cd.R/aU C)<aU (C.take y.toNat)+rd C y
 len:(sM cd C y).k+4≤x.length
theorem aOu {b l r:List Int} {o y:Int} (hb:aN b) (hl:bL b=l++y::r):rH (dJ b o) (encP o l).cd (tK o (encP o l)) y:=by
 have hsy:=qL hb
 have hy:=hsy y (by rw[hl];simp)
 have hsl:aAj l:=fun z hz=>hsy z (by rw[hl];exact List.mem_append_left _ hz)
 have hsr:aAj r:=fun z hz=>hsy z (by rw[hl];exact List.mem_append_right _ (List.mem_cons_of_mem _ hz))
 have hok:=(yU (o:=o) hsl).1
 have hsp:=lL (DN (o:=o) hok) hy.1 hy.2
 have h1:=EQ (o:=o) hok hy.1 hy.2
 have hin:=aCq (o:=o) r _ hsr h1.1
 have hf:(encP o (bL b)).cd=(r.foldl (kD o) (kD o (encP o l) y)).cd:=by rw[hl,aOb];rfl
 have hfo:=(yU (o:=o) hsy).1.2.2
 rw[←hf,QY] at hin
 have hc:=hok.2.2
 have hs:=aQw hc hsp hin (by have:=hfo.1;omega)
 have hk:(encP o l).cd.k≤(encP o (bL b)).cd.k:=((aBv hc hsp).trans hin).k
 have hnum:=aLq (o:=o) hb hk
 have hcu:cuC (dJ b o) (encP o l).cd=(encP o (bL b)).cd.N/256^((encP o (bL b)).cd.k-(encP o l).cd.k)-(encP o l).cd.N:=by unfold cuC;rw[hnum]
 rw[←hcu] at hs
 have hfa:=oN hsp ⟨hc.1,hc.2.1⟩
 have hc0:0≤cuC (dJ b o) (encP o l).cd:=by omega
 have hq:0<(encP o l).cd.R/aU (tK o (encP o l)):=by omega
 have hd:=aOt hq hs.1 hs.2
 have hs2:=hs.2
 rw[Int.mul_add] at hs2
 exact⟨hs.1,hs.2,hc0,by have:=hc.2.1;omega,hd.1,hd.2,by unfold dJ;rw[kQ];have:=hin.k;omega⟩
theorem KZ {C:List Int} (h: ∀c∈C,1≤c) {i:Int} (i0:0≤i): ∀k:Nat,i+k≤C.length→aU (C.take i.toNat)≤aU (C.take (i+k).toNat)
 |0,_=>by rw[show i+((0:Nat):Int)=i by omega];exact Int.le_refl _
 |k+1,hk=>by
  have ih:=KZ h i0 k (by omega)
  have e:=qM (l:=C) (i:=i+k) (by omega) (by omega)
  have:=h _ (bI (L:=C) (k:=i+k) (by omega) (by omega))
  rw[show i+((k+1:Nat):Int)=i+k+1 by omega]
  omega
theorem aQv {C:List Int} (h: ∀c∈C,1≤c) {i y v:Int} (i0:0≤i) (hi:i≤y) (hy:y<C.length) (g1:aU (C.take y.toNat)≤v) (hv:v<aU (C.take i.toNat)+rd C i):i=y:=by
 have e1:=qM (l:=C) i0 (by omega)
 rcases Int.lt_or_eq_of_le hi with c|c
 ·have:=KZ h (i:=i+1) (by omega) (y-i-1).toNat (by omega)
  rw[show i+1+((y-i-1).toNat:Int)=y by omega] at this
  omega
 ·exact c
theorem aQr {b:List Int} (hb:aN b) {i:Int} (i0:0≤i) (hi:i<(bL b).length):rd (bL b) i=257↔i=(bL b).length-1:=by
 have hlen:((bL b).length:Int)=(bC 0 (bB aS b)).length+1:=by unfold bL;rw[List.length_append,List.length_singleton];omega
 constructor
 ·intro h
  rcases Int.lt_or_le i (bC 0 (bB aS b)).length with c|c
  ·exfalso
   unfold bL at h
   rw[jL i0 c] at h
   have:=DF (bB aS b) 0 (oW hb) _ (bI i0 c)
   omega
  ·omega
 ·intro h
  unfold bL
  rw[gI (by omega),show i-(bC 0 (bB aS b)).length=0 by omega]
  rfl
theorem zT (b:List Int):(bL b).take ((bL b).length-1)=bC 0 (bB aS b):=by
 unfold bL
 rw[List.length_append,List.length_singleton,Nat.add_sub_cancel,List.take_left]
theorem WX {b:List Int} {i:Int} (i0:0≤i) (hi:i<(bL b).length):bL b=(bL b).take i.toNat++rd (bL b) i::(bL b).drop (i+1).toNat:=by
 conv=>lhs;rw[←List.take_append_drop i.toNat (bL b),fZ i0 hi]
theorem aSm {b x:List Int} {o i:Int} {s:PpS} (hb:aN b) (hx:x=dJ b o) (hS:s=encP o ((bL b).take i.toNat)) (i0:0≤i) (hi:i<(bL b).length):rH x s.cd (tK o s) (rd (bL b) i):=by
 subst hx
 subst hS
 exact aOu hb (WX i0 hi)
theorem rH.w0 {x:List Int} {o y:Int} {s:PpS} (h:rH x s.cd (tK o s) y) (hk:s.cls*o=0):rH x s.cd s.c0 y:=by
 unfold tK at h
 rwa[if_pos hk] at h
theorem rH.w1 {x:List Int} {o y:Int} {s:PpS} (h:rH x s.cd (tK o s) y) (hk:s.cls*o=1):rH x s.cd s.c1 y:=by
 unfold tK at h
 rwa[if_neg (by omega),if_pos hk] at h
theorem rH.w2 {x:List Int} {o y:Int} {s:PpS} (h:rH x s.cd (tK o s) y) (hk:s.cls*o=2):rH x s.cd s.c2 y:=by
 unfold tK at h
 rwa[if_neg (by omega),if_neg (by omega)] at h
theorem rH.tot {x:List Int} {cd:CdS} {C:List Int} {y:Int} (h:rH x cd C y) (hok:lD C) (h0:0≤y) (hy:y<258):cuC x cd/(cd.R/aU C)<aU C∧1≤aU C∧aU C≤65536:=by
 have h1:=h.v1
 have h2:=qN (i:=y) hok.2.1 h0 (by rw[hok.1];omega)
 have h3:=hok.2.2
 omega
theorem aYv {most p i:Int} {l acc q:List Int} (h:bkL most (l.drop i.toNat) acc p=some q) (i0:0≤i) (hi:i<l.length):(0≤rd l i∧rd l i<257)∧
    ((2≤rd l i∧(acc.length:Int)+1≤most∧bkL most (l.drop (i+1).toNat) (acc++[rd l i-1]) 1=some q)∨
     (rd l i<2∧p≤most∧(rd l i+1)*p≤most-acc.length∧bkL most (l.drop (i+1).toNat) (acc++List.replicate ((rd l i+1)*p).toNat 0) (p*2)=some q)):=by
  rw[fZ i0 hi,bkL] at h
  split at h
  · cases h
  · split at h
    · split at h
      · cases h
      · exact⟨by omega, .inl ⟨by omega,by omega,h⟩⟩
    · split at h
      · cases h
      · exact⟨by omega, .inr ⟨by omega,by omega,by omega,h⟩⟩
theorem UT {x:List Int} {m:Nat} {c M:Int} (hm:m<x.length) (h:c=qZ (x.take m)-M):c*256+rd x (m:Int)=qZ (x.take (m+1))-M*256:=by
 rw[aFl hm,h]
 omega
end Go.Pure

namespace Go.Eng
open Go Go.RowKit Go.Pure
section
variable {P:Program} {n:Nd} {B:Nat} {w0:World} {L:Env} {R:List Row} {ty:TypeId}
theorem wrap32 {x:Int} (h:0≤x∧x<4294967296):IntKind.u32.wrap x=x:=by
 simp[IntKind.wrap,IntKind.bits,IntKind.signed];omega
theorem vS {p:Int} (h:0≤p∧p<4294967296):(BitVec.ofInt 32 p).toNat=p.toNat:=by
 rw[BitVec.toNat_ofInt]
 have e:((2^32:Nat):Int)=4294967296:=rfl
 rw[e,Int.emod_eq_of_lt h.1 h.2]
theorem wY {x:Operand} {s d:TypeId} {j:IntKind} {p:Int} {td:TypeDesc} (hs':P.underlying s=some td) (hd:P.underlying d=some (.int .u32)) (hx:ev L x=some (.int j p)) (h:0≤p∧p<4294967296):Yl P n B w0 (.convert s d x) ty L R (.int .u32 p):=by
 have:=oJ (P:=P) (n:=n) (B:=B) (w0:=w0) (R:=R) (ty:=ty) hs' hd hx
 rwa[wrap32 h] at this
theorem aEu (x m:Int) (h:0≤x*m∧x*m<4294967296) (j:IntKind) (k:Nat) (hk:k≤32) (hm:(2:Int)^k=m) (w:World):(Op.shift .shl .u32 x j (k:Int)).run P w= .ok (.int .u32 (x*m)) w:=by
 have hn: ¬((k:Int)<0):=by omega
 have hb:min (k:Int).toNat (IntKind.bits .u32)=k:=by
  have:IntKind.bits .u32=32:=rfl
  omega
 unfold Op.shift
 simp only[hn,hb,if_false,hm,wrap32 h]
 rfl
theorem CW {x y:Operand} {t u:TypeId} {a m:Int} {j:IntKind} {k:Nat} (hx:ev L x=some (.int .u32 a)) (hy:ev L y=some (.int j (k:Int))) (hm:(2:Int)^k=m) (h:0≤a*m∧a*m<4294967296) (hk:Nat.ble k 32=true):Yl P n B w0 (.binOp .shl t x y u) ty L R (.int .u32 (a*m)):=by
 intro a' w o ho _ hs _
 simp[execOp,ho,hs.ev hx,hs.ev hy,binOp,eqGuard,aEu a m h j k (Nat.le_of_ble_eq_true hk) hm]
theorem aKd (p q:Int) (k:Nat) (m:Int) (hm:(2:Int)^k=m) (h:0≤p∧p*m+q<4294967296) (hq:0≤q∧q<m) (w:World):(Op.intBits .or .u32 q (p*m)).run P w= .ok (.int .u32 (q+p*m)) w:=by
 show Result.ok (Value.int .u32 (IntKind.u32.wrap ((BitVec.ofInt 32 q|||BitVec.ofInt 32 (p*m)).toNat:Int))) w=_
 have hpm:0≤p*m:=Int.mul_nonneg h.1 (by omega)
 rw[BitVec.or_comm,BitVec.toNat_or,vS (by omega),vS (by omega)]
 have e1:(p*m).toNat=2^k*p.toNat:=by
  have:p*m=((2^k*p.toNat:Nat):Int):=by
   rw[Int.natCast_mul,Int.toNat_of_nonneg h.1,Int.natCast_pow,←hm,Int.mul_comm]
   rfl
  rw[this,Int.toNat_natCast]
 have e2:q.toNat<2^k:=by
  have:((2^k:Nat):Int)=m:=by rw[←hm,Int.natCast_pow];rfl
  omega
 rw[e1,←Nat.two_pow_add_eq_or_of_lt e2,←e1]
 rw[show(((p*m).toNat+q.toNat:Nat):Int)=q+p*m by omega,wrap32 (by omega)]
theorem NV {x y:Operand} {t u:TypeId} {p q m:Int} (k:Nat) (hx:ev L x=some (.int .u32 q)) (hy:ev L y=some (.int .u32 (p*m))) (hm:(2:Int)^k=m) (h:0≤p∧p*m+q<4294967296) (hq:0≤q∧q<m):Yl P n B w0 (.binOp .or t x y u) ty L R (.int .u32 (q+p*m)):=by
 intro a w o ho _ hs _
 simp[execOp,ho,binOp,eqGuard,hs.ev hx,hs.ev hy,aKd p q k m hm h hq]
theorem tN {w:World} (base:Nat) (t tn ty e:TypeId) (kn:IntKind) (i:TypeInfo) (z:Value) (bytes:Nat) (ht:P.underlying t=some (.slice e)) (htn:P.underlying tn=some (.int kn)) (hi:P.info? e=some i) (hz:i.zero=some z)
  (hsize:i.size=1) (hby:i.bytes=bytes) (hzc:z.cells= #[z]) (hz1:z.oneCell'=true) (v:Value) (n:Nat) (xs:List Value) (hown:w.ownsRow base e 1 v n xs) (m:Nat) (h0:0<m) (h63:n+m≤maxLen) (hbytes:(n+m)*bytes≤140737488355328) (hbase:base≤w.heap.size):
  ∃v' w',(Builtin.append_ #[t,tn] ty #[v, .int .i64 (m:Int)]).run P w= .ok v' w'∧w'.ownsRow base e 1 v' (n+m) (xs++List.replicate m z)∧w.grownBy w' v.ownBlock∧(v'.ownBlock=v.ownBlock∨v'.ownBlock=some w.heap.size):=by
 subst hby
 have hsmall:n+m≤9223372036854775807:=by simp only[maxLen] at h63;omega
 have hl:(List.replicate m z).length=m:=List.length_replicate
 have hlen:(xs++List.replicate m z).length=(n+m)*1:=by rw[List.length_append,hown.1,hl];omega
 have hzl: ∀q,(Builtin.zeroCells z.cells q).toList=List.replicate q z:=fun q=>by
  rw[hzc]
  refine List.ext_getElem (by simp[Builtin.zeroCells]) fun i h1 h2=> ?_
  simp[Builtin.zeroCells,Nat.mod_one]
 have hzz:Builtin.zeroCells z.cells m=(List.replicate m z).toArray:=by rw[←hzl m]
 have hm0:m≠0:=by omega
 have hw:IntKind.i64.wrap (m:Int)=m:=by rw[IntKind.wrap_i64];omega
 have hneg: ¬((m:Int)<0):=by omega
 have hmb:m*i.bytes≤(n+m)*i.bytes:=Nat.mul_le_mul_right _ (by omega)
 have h48i: ¬(281474976710656<(m:Int)*(i.bytes:Int)):=by
  rw[←Int.natCast_mul]
  omega
 have grown: ∀(old:Nat),old<n+m→ ∀(row:Option Nat),
   (w.drew.alloc (.cells (xs.toArray++Builtin.zeroCells z.cells m++Builtin.zeroCells z.cells (grownCap w (n+m) old e-(n+m))) e)).ownsRow base e 1 (.slice (some ⟨w.heap.size,0,none⟩) (n+m) (grownCap w (n+m) old e)) (n+m) (xs++List.replicate m z)∧
   w.grownBy (w.drew.alloc (.cells (xs.toArray++Builtin.zeroCells z.cells m++Builtin.zeroCells z.cells (grownCap w (n+m) old e-(n+m))) e)) row:=by
  intro old ho row
  have hge:=grownCap_ge w (n+m) old e
  have hcm:grownCap w (n+m) old e≤maxLen:=grownCap_le_maxLen w (n+m) old e h63
  have hx1:=hown.1
  refine⟨⟨hlen, .inr ⟨w.heap.size,_,_,rfl,hbase,heap_alloc_new w.drew _,hge,hcm,?_,?_⟩⟩,⟨rfl,rfl,rfl,by simp,fun k hk _=>by first|exact heap_alloc_old w.drew _ k hk|exact heap_alloc_old w.drew _ hk⟩⟩
  ·rw [←Array.length_toList,Array.toList_append,Array.toList_append,List.length_append,List.length_append,hzl,hzl,List.length_replicate,List.length_replicate]
   show xs.length+m+_=_
   omega
  ·rw [Array.toList_append,Array.toList_append,hzl,←hlen]
   exact List.take_left
 rcases hown.2 with⟨rfl,rfl⟩|⟨g,cap,cur,rfl,hbg,hg,hnc,hcm,hcs,htake⟩
 ·have hx:xs=[]:=List.eq_nil_of_length_eq_zero (by simpa using hown.1)
  subst hx
  have hr:=Lib.run_append_nil_zeros (P:=P) w t tn ty e i z .i64 kn ht htn hi hz m h0 (by omega) (by omega) (by omega)
  have hgr:=grown 0 (by omega) (Value.ownBlock (.slice none 0 0))
  simp only[Nat.zero_add,List.nil_append,Array.empty_append] at hgr ⊢
  exact⟨_,_,hr,hgr.1,hgr.2,Or.inr rfl⟩
 ·by_cases hroom:n+m≤cap
  ·have hfit:n*1+(List.replicate m z).length≤cur.size:=by rw[hl,hcs];omega
   have hst:=run_storeCells_at P g (n*1) e (List.replicate m z) 0 cur w hg (by simpa using hfit) (fun u hu=>by rw[List.eq_of_mem_replicate hu];exact hz1)
   simp only[Nat.add_zero] at hst
   have hr:(Builtin.append_ #[t,tn] ty #[.slice (some ⟨g,0,none⟩) n cap, .int .i64 (m:Int)]).run P w= .ok (.slice (some ⟨g,0,none⟩) (n+m) cap) (w.setRow g (cur.toList.take (n*1)++List.replicate m z++cur.toList.drop (n*1+(List.replicate m z).length)).toArray):=by
    simp only[Nat.mul_one] at hst
    simp[Builtin.append_,run_underlying ht,run_underlying htn,sizeOf,typeInfo,zeroValue,hi,hz,asInt,asIntOf,hw,hm0,hneg,h48i,hsize,hroom,hzz,Addr.add_lit,hst]
   refine⟨_,_,hr,⟨hlen, .inr ⟨g,cap,_,rfl,hbg,setRow_heap w g cur _ e _ hg,hroom,hcm,?_,?_⟩⟩,⟨rfl,rfl,rfl,by simp,fun k _ hk=>setRow_other w g k _ (fun e=>hk (by simp[Value.ownBlock,e]))⟩,Or.inl rfl⟩
   ·simp only[List.size_toArray,List.length_append,List.length_take,List.length_drop,Array.length_toList]
    omega
   ·rw [htake,←hlen]
    exact List.take_left
  ·have holds: ∀j u,xs[j]? =some u→w.cell? ((⟨g,0,none⟩:Addr).add j)=some u:=hown.cells (g:=g) rfl
   have hfo:=run_firstCells_some (P:=P) w.drew 1 n ⟨g,0,none⟩ n cap xs hown.1 (by simpa using holds)
   have hn: ¬(n+m≤cap):=hroom
   have h63': ¬(9223372036854775807<((n:Int)+(m:Int))):=by omega
   have hfits:=growslice_fits (old:=cap) (by omega) hbytes
   have h48': ¬(281474976710656<Builtin.nextslicecap (n+m) cap*i.bytes):=by omega
   have hr:(Builtin.append_ #[t,tn] ty #[.slice (some ⟨g,0,none⟩) n cap, .int .i64 (m:Int)]).run P w= .ok (.slice (some ⟨w.heap.size,0,none⟩) (n+m) (grownCap w (n+m) cap e)) (w.drew.alloc (.cells (xs.toArray++Builtin.zeroCells z.cells m++Builtin.zeroCells z.cells (grownCap w (n+m) cap e-(n+m))) e)):=by
    simp[Builtin.append_,run_underlying ht,run_underlying htn,sizeOf,typeInfo,zeroValue,hi,hz,asInt,asIntOf,hw,hm0,hneg,h48i,hsize,hn,h63',h48',Question.forced,hfo,newRow,grownCap]
   have hgr:=grown cap (by omega) (Value.ownBlock (.slice (some ⟨g,0,none⟩) n cap))
   exact⟨_,_,hr,hgr.1,hgr.2,Or.inr rfl⟩
theorem aQb {s x:Operand} {t tn e:TypeId} {bytes m:Nat} {kn k:IntKind} {A:Option Addr} {c q:Nat} {l:List Int} (i:Nat) (hi:R[i]? =some ⟨e,1,A,q,c,ints k l,false⟩) (ht:P.underlying t=some (.slice e)) (htn:P.underlying tn=some (.int kn)) (hinfo:(P.info? e).map (fun i=>(i.zero,i.size,i.bytes))=some (some (.int k 0),1,bytes))
  (hs:ev L s=some (.slice A q c)) (hx:ev L x=some (.int .i64 (m:Int))) (h0:0<m) (h63:q+m≤1000000) (hbytes:(q+m)*bytes≤140737488355328):
  Ac P n B w0 (.call {callee:= .builtin .append,args:= #[s,x],argTypes:= #[t,tn]}) ty L R (fun v R'=> ∃A' c',v= .slice A' (q+m) c'∧R'=R.set i ⟨e,1,A',q+m,c',ints k (l++List.replicate m 0),false⟩):=by
 intro a w o K Q ho _ hs' hp hk
 obtain⟨i0,hi0,hzz⟩:=Option.map_eq_some_iff.1 hinfo
 simp only[Prod.mk.injEq] at hzz
 obtain⟨hz0,hz1,hz2⟩:=hzz
 have hr:=hp.own _ (List.mem_of_getElem? hi)
 have hown:=Row.lies_w hr rfl
 obtain⟨v',w',h2,h3,h4,h5⟩:=tN (P:=P) B t tn o.type e kn i0 (.int k 0) bytes ht htn hi0 hz0 hz1 hz2 rfl rfl _ q (ints k l) hown m h0 (by unfold maxLen;omega) hbytes hp.base
 have hform: ∃A' c',v'= .slice A' (q+m) c':=by
  rcases h3.2 with⟨rfl,hn⟩|⟨g,cap,cur,rfl,_⟩
  ·exact⟨none,0,by rw[hn]⟩
  ·exact⟨_,cap,rfl⟩
 obtain⟨A',c',rfl⟩:=hform
 have hrep:ints k l++List.replicate m (.int k 0)=ints k (l++List.replicate m 0):=by simp[ints]
 rw[hrep] at h3
 unfold Oper.wp execOp
 simp only[ho,resolve,invoke,builtin,Sem.run_bind,Sem.run_pure,Result.andThen_ok,List.map_toArray,List.map_cons,List.map_nil,hs'.ev hs,hs'.ev hx,h2,Oper.upon]
 refine hk _ w' _ ?_ ⟨A',c',rfl,rfl⟩
 refine hp.upd hi h4 (EZ _ _ _ _ h2) (fun k hk=> ?_) ?_ (fun a' ha'=> ?_)
 ·cases hA:A with
  |none=>rw[hA] at hk;simp[Value.ownBlock] at hk
  |some a1=>rw[hA] at hk;simp only[Value.ownBlock,Option.some.injEq] at hk;exact⟨a1,rfl,hk⟩
 ·exact h3
 ·have ha2:A'=some a':=ha'
  subst ha2
  rcases h5 with h5|h5
  ·cases hA:A with
   |none=>rw[hA] at h5;simp[Value.ownBlock] at h5
   |some a1=>rw[hA] at h5;simp only[Value.ownBlock,Option.some.injEq] at h5;exact .inl ⟨a1,rfl,h5.symm⟩
  ·simp only[Value.ownBlock,Option.some.injEq] at h5
   exact .inr (by omega)
end
theorem aTl {x:Int} (h:0≤x∧x<4294967296):0+x/1%256*1+x/256%256*256+x/65536%256*65536+x/16777216%256*16777216=x:=by omega
end Go.Eng

namespace Go.Proofs.YtdbebmmhdefgdaaGreat
open Go Go.Eng Go.Pure
open Tryz
set_option maxRecDepth 100000
theorem rZ {B:Nat} {w0:World} {R:List Row} {g:Nat} {A:Option Addr} {n c:Nat} {C:List Int} {y v0:Int} (hn:n=C.length) (hok:lD C) (hy:0≤y∧y<258) (hv:aU (C.take y.toNat)≤v0∧v0<aU (C.take y.toNat)+rd C y):
  Ct Tryz.prog 301 #[.pointer (GG g),I v0] B w0 (⟨256,2,(GG g),1,1,[.slice A n c,I (aU C)],false⟩::(ri 3 A n c C)::R) (fun v R'=>v= .tuple #[I y, .bool true]∧R'=⟨256,2,(GG g),1,1,[.slice A n c,I (aU C)],false⟩::(ri 3 A n c C)::R):=by
 subst hn
 have hcl:=hok.1
 have hpy:=hok.le.part hy.1 hy.2
 have hps:=qN (i:=y) hok.2.1 hy.1 (by omega)
 refine fn2 Tryz.func301 Z Z Z ?_
 refine wq<|wg Z<|wg Z<|aA<|aG<|wq<|wm Z<|wy (Yl.f (fG Z Z) (by omega))<|wm Z<|aB Z Z<|wm Z<|aB Z Z<|wm Z ?_
 refine aB Z Z<|wa (aD IM Z ((iH))) ?_
 rintro _ _ ⟨rfl,rfl⟩
 refine aB Z Z<|wy (Yl.f (jS Z Z) (by omega))<|wy (aP Z Z)<|aA<|aQ Z<|aJ<|aG<|aI ?_
 refine dW (fun(i:Int) (x:Int)=>[(0, .pointer (GG g)),(1,I x),(4,I i)]) (fun(i:Int) (x:Int)=>(⟨256,2,(GG g),1,1,[.slice A C.length c,I (aU C)],false⟩::(ri 3 A C.length c C)::R)) (fun(i:Int) (x:Int)=>(0≤i)∧(i≤y)∧(x=v0-aU (C.take i.toNat))) (fun(i:Int) (x:Int)=>(y-i).toNat) ?_ ?_
 ·exact⟨0,v0,⟨(by omega),(by omega),(by rw[show aU (C.take (0:Int).toNat)=0 from rfl];omega)⟩,(G3 Z Z Z),fun _ h=>h⟩
 intro i x ⟨hi0,hi1,hx⟩
 have hp:=hok.le.part hi0 (by omega)
 refine aG<|wq<|wm Z<|wm Z<|wy (aF Z)<|wy (aC (off:=0) (m:=0) underlying256 Z iB Z Z Z)<|wy (aK (rdr 0 Z) underlying52 Z Z Z)<|wm Z<|wy (aH underlying52 sz3 Z Z (rdr 1 Z) (by omega) (by omega))<|wy (aX underlying3 Z Z (rdr 1 Z) (by omega) (by omega))<|wy (jS Z Z)<|aA<|bM Z (fun hc1=> ?_) (fun hc1=> ?_)
 ·have hne:i≠y:=by rintro rfl;omega
  refine aJ<|aI<|wq<|wm Z<|wm Z<|wy (aF Z)<|wy (aC (off:=0) (m:=0) underlying256 Z iB Z Z Z)<|wy (aK (rdr 0 Z) underlying52 Z Z Z)<|wm Z<|wy (aH underlying52 sz3 Z Z (rdr 1 Z) (by omega) (by omega))<|wy (aX underlying3 Z Z (rdr 1 Z) (by omega) (by omega))<|wS Z Z<|wg Z<|aA ?_
  refine aL<|wm Z<|wA Z Z<|wg Z<|aA ?_
  exact⟨i+1,x-(rd C i),⟨(by omega),(by omega),(by rw[qM hi0 (by omega)];omega)⟩,(by omega),(G3 Z Z Z),fun _ h=>h⟩
 ·refine aZ<|wq<|wm Z<|wg Z<|wg Z<|aA<|bX (R1:=(⟨256,2,(GG g),1,1,[.slice A C.length c,I (aU C)],false⟩::(ri 3 A C.length c C)::R)) (fun _ h=>h) ?_
  refine⟨_,_,Z,Z,?_⟩
  obtain rfl:i=y:=aQv hok.2.1 hi0 hi1 (by omega) hv.1 (by omega)
  exact⟨Z,Z⟩
theorem oQ {B:Nat} {w0:World} {R:List Row} {g:Nat} {A:Option Addr} {n c:Nat} {x:List Int} {us cc r M:Int} {m:Nat} (hn:n=x.length) (bh_x:aN x) (hN:x.length≤1000000) (hu:us=(m:Int)) (hc:cc=qZ (x.take m)-M) (hb:0≤cc∧cc<4294967296) (hm:m<x.length):
  Ct Tryz.prog 327 #[.pointer (GG g)] B w0 (⟨360,4,(GG g),1,1,[.slice A n c,I us, .int .u64 cc, .int .u64 r],false⟩::(ru 5 A n c x)::R) (fun v R'=>v= .bool true∧R'=⟨360,4,(GG g),1,1,[.slice A n c,I ((m+1:Nat):Int), .int .u64 (qZ (x.take (m+1))-M*256), .int .u64 r],false⟩::(ru 5 A n c x)::R):=by
 subst hn
 subst hu
 have hbx:=bh_x.rd (m:Int)
 refine fn1 Tryz.func327 Z Z Z ?_
 refine wq<|wg Z<|aA<|aG<|aG<|bT mixed<|wD 0 Z (aM Z)<|wD 1 Z (aF Z)<|wD 2 Z (aC (off:=1) (m:=1) underlying360 Z sz3 Z Z Z)<|wD 3 Z (aK (rdr 0 Z) underlying3 Z Z Z)<|wD 4 Z (aM Z)<|wD 5 Z (aF Z)<|wD 6 Z (aC (off:=0) (m:=0) underlying360 Z fP Z Z Z)<|wD 7 Z (aK (rdr 0 Z) underlying22 Z Z Z) ?_
 refine wD 8 Z (aR underlying22 Z)<|wD 9 Z (Yl.f (jS Z Z) (by omega))<|bP (by kernel_rfl)<|aQ Z<|aJ<|aG<|bT mixed<|wD 0 Z (aM Z)<|wD 1 Z (aM Z)<|wD 2 Z (aF Z)<|wD 3 Z (aC (off:=2) (m:=2) underlying360 Z dP Z Z Z)<|wD 4 Z (aK (rdr 0 Z) underlying112 Z Z Z)<|wD 5 Z (vU (k:=8) (m:=256) Z Z Z (by omega) Z)<|wD 6 Z (aM Z)<|wD 7 Z (aF Z) ?_
 refine wD 8 Z (aC (off:=0) (m:=0) underlying360 Z fP Z Z Z)<|wD 9 Z (aK (rdr 0 Z) underlying22 Z Z Z)<|wD 10 Z (aM Z)<|wD 11 Z (aF Z)<|wD 12 Z (aC (off:=1) (m:=1) underlying360 Z sz3 Z Z Z)<|wD 13 Z (aK (rdr 0 Z) underlying3 Z Z Z)<|wD 14 Z (aH underlying22 sz5 Z Z (rdr 1 Z) (by omega) (by omega))<|wD 15 Z (aX underlying5 Z Z (rdr 1 Z) (by omega) (by omega))<|wD 16 Z (iX underlying5 underlying112 Z (by omega))<|wD 17 Z (aZo (p:=cc) (m:=256) 8 Z Z Z (by omega) (by omega))<|wD 18 Z (aF Z)<|wD 19 Z (aC (off:=2) (m:=2) underlying360 Z dP Z Z Z)<|qJ 20 Z (by kernel_rfl) (bF 0 Z Z Z dP Z Z Z Z (Nat.le_of_ble_eq_true Z)) ?_
 rintro _ _ rfl
 refine⟨.inl (by kernel_rfl),?_⟩
 refine bP (by kernel_rfl)<|wq<|wm Z<|wy (aF Z)<|wy (aC (off:=1) (m:=1) underlying360 Z sz3 Z Z Z)<|wy (aK (rdr 0 Z) underlying3 Z Z Z)<|wA Z Z<|wy (aF Z)<|wy (aC (off:=1) (m:=1) underlying360 Z sz3 Z Z Z)<|bY (bF 0 Z Z Z sz3 Z Z Z Z (Nat.le_of_ble_eq_true Z)) ?_
 rintro _ _ rfl
 refine aA<|wq<|wg Z<|aA<|bX (R1:=(⟨360,4,(GG g),1,1,[.slice A x.length c,I (((m:Nat):Int)+1), .int .u64 (cc*256+rd x ((m:Nat):Int)), .int .u64 r],false⟩::(ru 5 A x.length c x)::R)) (fun _ h=>h) ?_
 refine⟨_,Z,?_⟩
 rw[UT hm hc]
 exact⟨Z,Z⟩
theorem GN {w:World} {A_u:Option Addr} {n_u c_u:Nat} {u:List Int} (h_u:Rd w A_u n_u c_u 1 (ints .u8 u)) (bh_u:aN u) (hN:u.length≤1000000) (h4:4≤u.length):
  Ct Tryz.prog 299 #[.slice A_u n_u c_u] w.heap.size w [] (fun v R'=> ∃g A c,v= .tuple #[.pointer (GG g), .bool true]∧R'=[⟨360,4,(GG g),1,1,[.slice A u.length c,I ((cd0.k+4:Nat):Int), .int .u64 (cuC u cd0), .int .u64 cd0.R],false⟩,(ru 5 A u.length c u)]):=by
 obtain rfl:=h_u.lenI
 refine fn2 Tryz.func299 Z Z Z ?_
 have m_u:=h_u.max
 have hq0:=yE 0 (u.take 0) (by rw[List.length_take];omega) (bh_u.take _)
 have hq1:=yE 1 (u.take 1) (by rw[List.length_take];omega) (bh_u.take _)
 have hq2:=yE 2 (u.take 2) (by rw[List.length_take];omega) (bh_u.take _)
 have hq3:=yE 3 (u.take 3) (by rw[List.length_take];omega) (bh_u.take _)
 refine wq<|wg Z<|wg Z<|aA<|aG<|wq<|wm Z<|wy (aR underlying22 Z)<|wy (Yl.f (fG Z Z) (by omega))<|aA<|aQ Z<|aJ<|aG ?_
 refine aL<|wm Z<|wa (aD aHd Z (Ct.fresh (fun w hw=>oG ((h_u.c _) w hw) hN))) ?_
 rintro _ _ ⟨_,rfl,A_1,c_2,rfl,rfl⟩
 refine wy (dS (v:= .agg #[.slice A_1 u.length c_2,I 0, .int .u64 0, .int .u64 4294967295]) Z (fun w=>by kernel_rfl))<|wa (dV (sz:=4) rfl rfl) ?_
 rintro _ _ ⟨g_3,rfl,rfl⟩
 refine wg Z<|aA<|aG<|wq<|wm Z<|aA<|aI<|qK 5<|eB<|wq<|wy (Yl.t (fG Z Z) (by decide))<|aA<|aG ?_
 refine dB Z<|aJ<|aG<|aI<|aL<|wm Z<|wa (aD UG Z ((oQ (m:=0) (M:=0) Z bh_u hN Z Z (by first|exact⟨by decide,by decide⟩|(simp only[Nat.zero_add,Nat.reduceAdd,Int.zero_mul,Int.sub_zero];omega)) (by omega)))) ?_
 rintro _ _ ⟨rfl,rfl⟩
 refine aA<|aL<|wy (Yl.is (dG Z Z (by omega)) Z)<|wm Z<|aA<|eB<|wq<|wy (Yl.t (fG Z Z) (by decide))<|aA<|aG<|dB Z<|aJ<|aG<|aI ?_
 refine aL<|wm Z<|wa (aD UG Z ((oQ (m:=0+1) (M:=(0*256)) Z bh_u hN Z Z (by first|exact⟨by decide,by decide⟩|(simp only[Nat.zero_add,Nat.reduceAdd,Int.zero_mul,Int.sub_zero];omega)) (by omega)))) ?_
 rintro _ _ ⟨rfl,rfl⟩
 refine aA<|aL<|wy (Yl.is (dG Z Z (by omega)) Z)<|wm Z<|aA<|eB<|wq<|wy (Yl.t (fG Z Z) (by decide))<|aA<|aG<|dB Z<|aJ<|aG<|aI ?_
 refine aL<|wm Z<|wa (aD UG Z ((oQ (m:=0+1+1) (M:=(0*256*256)) Z bh_u hN Z Z (by first|exact⟨by decide,by decide⟩|(simp only[Nat.zero_add,Nat.reduceAdd,Int.zero_mul,Int.sub_zero];omega)) (by omega)))) ?_
 rintro _ _ ⟨rfl,rfl⟩
 refine aA<|aL<|wy (Yl.is (dG Z Z (by omega)) Z)<|wm Z<|aA<|eB<|wq<|wy (Yl.t (fG Z Z) (by decide))<|aA<|aG<|dB Z<|aJ<|aG<|aI ?_
 refine aL<|wm Z<|wa (aD UG Z ((oQ (m:=0+1+1+1) (M:=(0*256*256*256)) Z bh_u hN Z Z (by first|exact⟨by decide,by decide⟩|(simp only[Nat.zero_add,Nat.reduceAdd,Int.zero_mul,Int.sub_zero];omega)) (by omega)))) ?_
 rintro _ _ ⟨rfl,rfl⟩
 refine aA<|aL<|wy (Yl.is (dG Z Z (by omega)) Z)<|wm Z<|aA<|eB<|wq<|wy (Yl.f (fG Z Z) (by decide))<|aA<|aG<|aQ Z<|aZ<|wq ?_
 refine wm Z<|wg Z<|wg Z<|aA<|bX (R1:=[⟨360,4,(GG g_3),1,1,[.slice A_1 u.length c_2,I ((0+1+1+1+1:Nat):Int), .int .u64 (qZ (u.take (0+1+1+1+1))-(0*256*256*256)*256), .int .u64 4294967295],false⟩,(ru 5 A_1 u.length c_2 u)]) (fun _ h=>h) ?_
 refine⟨_,_,Z,Z,?_⟩
 exact⟨_,_,_,Z,Z⟩
theorem AY {B:Nat} {w0:World} {R:List Row} {g:Nat} {A:Option Addr} {n c:Nat} {x:List Int} {us cc r total:Int} (hn:n=x.length) (ht:1≤total∧total≤65536) (hr:16777216≤r∧r<4294967296) (hc:0≤cc∧cc<4294967296) (hv:cc/(r/total)<total):
  Ct Tryz.prog 300 #[.pointer (GG g),I total] B w0 (⟨360,4,(GG g),1,1,[.slice A n c,I us, .int .u64 cc, .int .u64 r],false⟩::(ru 5 A n c x)::R) (fun v R'=>v= .tuple #[I (cc/(r/total)), .bool true]∧R'=⟨360,4,(GG g),1,1,[.slice A n c,I us, .int .u64 cc, .int .u64 r],false⟩::(ru 5 A n c x)::R):=by
 subst hn
 have hq:256≤r/total:=(Int.le_ediv_iff_mul_le (by omega)).2 (by omega)
 have hv0:0≤cc/(r/total):=Int.ediv_nonneg hc.1 (by omega)
 refine fn2 Tryz.func300 Z Z Z ?_
 refine wq<|wg Z<|wg Z<|aA<|aG<|wq<|wm Z<|wy (jR underlying332 Z Z)<|wm Z<|aB Z Z<|wm Z<|aB Z Z<|wy (Yl.f (fG Z Z) (by omega)) ?_
 refine wy (aP Z Z)<|wm Z<|aB Z Z<|wm Z<|aB Z Z<|wy (Yl.f (dR Z Z) (by omega))<|wy (aP Z Z)<|aA<|aQ Z<|aJ<|wq<|wm Z<|wy (aF Z)<|wy (aC (off:=3) (m:=3) underlying360 Z dP Z Z Z) ?_
 refine wy (aK (rdr 0 Z) underlying112 Z Z Z)<|wm Z<|wy (iX underlying3 underlying112 Z (by omega))<|wy (EC Z Z (by omega) (by omega))<|wg Z<|aA<|aG<|wq<|wm Z<|wy (Yl.f (dI Z Z) (by omega))<|wm Z<|aB Z Z<|wm Z<|aB Z Z ?_
 refine wy (aF Z)<|aB Z Z<|wy (aC (off:=2) (m:=2) underlying360 Z dP Z Z Z)<|aB Z Z<|wy (aK (rdr 0 Z) underlying112 Z Z Z)<|aB Z Z<|wm Z<|aB Z Z<|wy (EC Z Z (by omega) (by omega))<|aB Z Z<|wm Z<|aB Z Z<|wy (iX underlying3 underlying112 Z (by omega))<|aB Z Z<|wy (Yl.f (jS Z Z) (by omega)) ?_
 refine wy (aP Z Z)<|aA<|aQ Z<|aJ<|wq<|wm Z<|wy (aF Z)<|wy (aC (off:=2) (m:=2) underlying360 Z dP Z Z Z)<|wy (aK (rdr 0 Z) underlying112 Z Z Z)<|wm Z<|wy (EC Z Z (by omega) (by omega))<|wy (iY underlying112 underlying3 Z (by omega))<|wg Z<|wg Z ?_
 refine aA<|bX (R1:=(⟨360,4,(GG g),1,1,[.slice A x.length c,I us, .int .u64 cc, .int .u64 r],false⟩::(ru 5 A x.length c x)::R)) (fun _ h=>h) ?_
 refine⟨_,_,Z,Z,?_⟩
 exact⟨Z,Z⟩
set_option maxHeartbeats 1000000 in
theorem zS {B:Nat} {w0:World} {R:List Row} {g:Nat} {A:Option Addr} {n c:Nat} {x:List Int} {s:CdS} {low size total:Int} (hn:n=x.length) (bh_x:aN x) (hN:x.length≤1000000) (hs:16777216≤s.R∧s.R<4294967296) (hsp:uP low size total) (hlo:s.R/total*low≤cuC x s) (hhi:cuC x s<s.R/total*(low+size)) (hlen:(gV s low size total).k+4≤x.length):
  Ct Tryz.prog 302 #[.pointer (GG g),I low,I size,I total] B w0 (⟨360,4,(GG g),1,1,[.slice A n c,I ((s.k+4:Nat):Int), .int .u64 (cuC x s), .int .u64 s.R],false⟩::(ru 5 A n c x)::R) (fun v R'=>v= .bool true∧R'=⟨360,4,(GG g),1,1,[.slice A n c,I (((gV s low size total).k+4:Nat):Int), .int .u64 (cuC x (gV s low size total)), .int .u64 ((gV s low size total).R)],false⟩::(ru 5 A n c x)::R):=by
 subst hn
 have hsp':=hsp
 obtain⟨s1,s2,s3,s4⟩:=hsp'
 obtain⟨f1,f2,f3,f4,f5⟩:=oN hsp hs
 have hms:=Int.mul_add (s.R/total) low size
 have hln:s.k+shN (s.R/total*size)+4≤x.length:=hlen
 refine fn1 Tryz.func302 Z Z Z ?_
 refine wq<|wg Z<|aA<|aG<|wq<|wm Z<|wy (jR underlying332 Z Z)<|wm Z<|aB Z Z<|wm Z<|aB Z Z<|wm Z<|aB Z Z ?_
 refine wm Z<|aB Z Z<|wa (aD aVw Z (Ct.quiet (fun w hw=>CE hsp))) ?_
 rintro _ _ ⟨rfl,rfl⟩
 refine aB Z Z<|wy (dH Z)<|wy (aP Z Z)<|aA<|aQ Z<|aJ<|wq<|wm Z<|wy (aF Z)<|wy (aC (off:=3) (m:=3) underlying360 Z dP Z Z Z)<|wy (aK (rdr 0 Z) underlying112 Z Z Z)<|wm Z<|wy (iX underlying3 underlying112 Z (by omega))<|wy (EC Z Z (by omega) (by omega)) ?_
 refine wg Z<|aA<|aG<|wq<|wm Z<|wy (aF Z)<|wy (aC (off:=2) (m:=2) underlying360 Z dP Z Z Z)<|wy (aK (rdr 0 Z) underlying112 Z Z Z)<|wm Z<|wm Z<|wy (iX underlying3 underlying112 Z (by omega))<|wy (vV Z Z (by omega))<|wy (Yl.f (fG Z Z) (by omega))<|wm Z ?_
 refine aB Z Z<|wm Z<|aB Z Z<|wy (aF Z)<|aB Z Z<|wy (aC (off:=2) (m:=2) underlying360 Z dP Z Z Z)<|aB Z Z<|wy (aK (rdr 0 Z) underlying112 Z Z Z)<|aB Z Z<|wm Z<|aB Z Z<|wm Z<|aB Z Z<|wm Z<|aB Z Z ?_
 refine wA Z Z<|aB Z Z<|wy (iX underlying3 underlying112 Z (by omega))<|aB Z Z<|wy (vV Z Z (by omega))<|aB Z Z<|wy (Yl.f (jS Z Z) (by omega))<|wy (aP Z Z)<|aA<|aQ Z<|aJ<|wq<|wm Z<|wy (aF Z) ?_
 refine wy (aC (off:=2) (m:=2) underlying360 Z dP Z Z Z)<|wy (aK (rdr 0 Z) underlying112 Z Z Z)<|wm Z<|wm Z<|wy (iX underlying3 underlying112 Z (by omega))<|wy (vV Z Z (by omega))<|wy (aWk Z Z (by omega))<|wy (aF Z)<|wy (aC (off:=2) (m:=2) underlying360 Z dP Z Z Z)<|bY (bF 0 Z Z Z dP Z Z Z Z (Nat.le_of_ble_eq_true Z)) ?_
 rintro _ _ rfl
 refine aA<|aG<|wq<|wm Z<|wm Z<|wm Z<|wy (iX underlying3 underlying112 Z (by omega))<|wy (vV Z Z (by omega))<|wy (aF Z)<|wy (aC (off:=3) (m:=3) underlying360 Z dP Z Z Z)<|bY (bF 0 Z Z Z dP Z Z Z Z (Nat.le_of_ble_eq_true Z)) ?_
 rintro _ _ rfl
 refine aA<|aI ?_
 refine DC (fun(j:Nat) (cc:Int) (r:Int) (M:Int)=>[(0, .pointer (GG g))]) (fun(j:Nat) (cc:Int) (r:Int) (M:Int)=>(⟨360,4,(GG g),1,1,[.slice A x.length c,I ((s.k+j+4:Nat):Int), .int .u64 cc, .int .u64 r],false⟩::(ru 5 A x.length c x)::R)) (fun(j:Nat) (cc:Int) (r:Int) (M:Int)=>(M=(s.N+s.R/total*low)*256^j)∧(r=(s.R/total*size)*256^j)∧(j≤shN (s.R/total*size))∧(cc=qZ (x.take (s.k+j+4))-M)∧(0≤cc∧cc<r)) (fun(j:Nat) (cc:Int) (r:Int) (M:Int)=>(4-j)) ?_ ?_
 ·exact⟨0,(cuC x s-s.R/total*low),(s.R/total)*size,(s.N+s.R/total*low),⟨(by rw[Int.pow_zero,Int.mul_one]),(by rw[Int.pow_zero,Int.mul_one]),(Nat.zero_le _),(by show cuC x s-s.R/total*low=qZ (x.take (s.k+4))-_;unfold cuC;omega),(by omega)⟩,(G1 Z),fun _ h=>h⟩
 intro j cc r M ⟨hM,hr,hj,hc,hb⟩
 have hsl:=ET (s.R/total*size)
 have hrp:1≤r:=by rw[hr];exact FU (by omega)
 refine aG<|wq<|wm Z<|wy (aF Z)<|wy (aC (off:=3) (m:=3) underlying360 Z dP Z Z Z)<|wy (aK (rdr 0 Z) underlying112 Z Z Z)<|wL Z Z<|aA<|bM Z (fun hc1=> ?_) (fun hc1=> ?_)
 ·have hj2:j+1≤shN (s.R/total*size):=ES (by omega) hj (by rw[←hr];assumption)
  have hrd:=UT (x:=x) (m:=s.k+j+4) (by omega) hc
  have hbx:=bh_x.rd ((s.k+j+4:Nat):Int)
  have hb2:0≤qZ (x.take (s.k+j+4+1))-M*256∧qZ (x.take (s.k+j+4+1))-M*256<r*256:=by omega
  refine aJ<|aG<|aI<|wq<|wm Z<|wa (aD UG Z ((oQ (m:=(s.k+j+4)) (M:=M) Z bh_x hN Z hc (by omega) (by omega)))) ?_
  rintro _ _ ⟨rfl,rfl⟩
  refine wy (dH Z)<|aA<|aQ Z<|aJ<|aL<|wm Z<|wy (aF Z)<|wy (aC (off:=3) (m:=3) underlying360 Z dP Z Z Z)<|wy (aK (rdr 0 Z) underlying112 Z Z Z)<|wy (vU (k:=8) (m:=256) Z Z Z (by omega) Z)<|wy (aF Z)<|wy (aC (off:=3) (m:=3) underlying360 Z dP Z Z Z)<|bY (bF 0 Z Z Z dP Z Z Z Z (Nat.le_of_ble_eq_true Z)) ?_
  rintro _ _ rfl
  refine aA ?_
  exact⟨(j+1),(qZ (x.take (s.k+j+4+1))-M*256),r*256,(M*256),⟨(by rw[hM,Int.mul_assoc,←Int.pow_succ]),(by rw[hr,Int.mul_assoc,←Int.pow_succ]),(hj2),(Z),(hb2)⟩,(by omega),(G1 Z),fun _ h=>h⟩
 ·refine aZ<|wq<|wg Z<|aA<|bX (R1:=(⟨360,4,(GG g),1,1,[.slice A x.length c,I ((s.k+j+4:Nat):Int), .int .u64 cc, .int .u64 r],false⟩::(ru 5 A x.length c x)::R)) (fun _ h=>h) ?_
  refine⟨_,Z,?_⟩
  obtain rfl:j=shN (s.R/total*size):=OE (by omega) hj (by rw[←hr];omega)
  rw[hc,hr,hM]
  exact⟨Z,Z⟩
end Go.Proofs.YtdbebmmhdefgdaaGreat

namespace Go.Proofs.YtdbebmmhdefgdaaGreat
open Go Go.Eng Go.Pure
open Tryz
set_option maxRecDepth 100000
set_option maxHeartbeats 4000000 in
theorem OC {w:World} {A_x:Option Addr} {n_x c_x:Nat} {x:List Int} {o:Int} {most:Int} {b:List Int} (h_x:Rd w A_x n_x c_x 1 (ints .u8 x)) (hx:x=dJ b o) (bh_b:aN b) (ho:o=0∨o=1) (hN:b.length≤100000) (hm:(b.length:Int)≤most):
  Ct Tryz.prog 272 #[.slice A_x n_x c_x,I o,I most] w.heap.size w [] (fun v R'=> ∃A c,v= .tuple #[.slice A (bC 0 (bB aS b)).length c, .bool true]∧R'=[(ri 3 A ((bC 0 (bB aS b)).length) c (bC 0 (bB aS b)))]):=by
 obtain rfl:=h_x.lenI
 refine fn2 Tryz.func272 Z Z Z ?_
 have m_x:=h_x.max
 have hsy:=qL bh_b
 have hxl:x.length≤2*b.length+6:=by rw[hx];exact nX bh_b
 have hx4:4≤x.length:=by rw[hx];unfold dJ;rw[kQ];omega
 have hs1:(bL b).length=(bC 0 (bB aS b)).length+1:=by unfold bL;rw[List.length_append];rfl
 have htl:=oM (bB aS b) 0
 rw[jW] at htl
 refine wq<|wg Z<|wg Z<|aA<|wq<|wm Z<|wa (aD bAu Z (Ct.fresh (fun w hw=>GN ((h_x.c _) w hw) (by rw[hx];exact gJ _ _) (by omega) hx4))) ?_
 rintro _ _ ⟨_,rfl,g_1,A_2,c_3,rfl,rfl⟩
 refine wm Z<|wX Z Z<|wX Z Z<|wg Z<|wg Z<|aA<|wq<|wm Z<|wa (aD aWc Z (Ct.fresh (fun w hw=>MH))) ?_
 rintro _ _ ⟨_,rfl,g_4,g_5,g_6,g_7,A_8,A_9,A_10,c_11,c_12,c_13,rfl,rfl⟩
 refine wg Z<|aA<|wq<|dK (R1:=[(ri 3 none 0 0 ([])),⟨250,5,(GG g_4),1,1,[.pointer (GG g_5), .pointer (GG g_6), .pointer (GG g_7),I 0,I o],false⟩,⟨256,2,(GG g_5),1,1,[.slice A_8 258 c_11,I 258],false⟩,(ri 3 A_8 258 c_11 wH),⟨256,2,(GG g_6),1,1,[.slice A_9 258 c_12,I 258],false⟩,(ri 3 A_9 258 c_12 wH),⟨256,2,(GG g_7),1,1,[.slice A_10 258 c_13,I 258],false⟩,(ri 3 A_10 258 c_13 wH),⟨360,4,(GG g_1),1,1,[.slice A_2 x.length c_3,I ((cd0.k+4:Nat):Int), .int .u64 (cuC x cd0), .int .u64 cd0.R],false⟩,(ru 5 A_2 x.length c_3 x)]) (Sub.refl _) (fun _ h=>h.nil 3 1)<|wg Z<|aA<|aG<|aI ?_
 refine nN (fun(i:Int) (A1:Option Addr) (n1:Nat) (c1:Nat) (acc:List Int) (Sx:PpS)=>[(2,I most),(8, .pointer (GG g_1)),(9, .bool true),(10, .pointer (GG g_4)),(11, .slice A1 n1 c1)]) (fun(i:Int) (A1:Option Addr) (n1:Nat) (c1:Nat) (acc:List Int) (Sx:PpS)=>[(ri 3 A1 n1 c1 acc),⟨250,5,(GG g_4),1,1,[.pointer (GG g_5), .pointer (GG g_6), .pointer (GG g_7),I Sx.cls,I o],false⟩,⟨256,2,(GG g_5),1,1,[.slice A_8 258 c_11,I (aU Sx.c0)],false⟩,(ri 3 A_8 258 c_11 Sx.c0),⟨256,2,(GG g_6),1,1,[.slice A_9 258 c_12,I (aU Sx.c1)],false⟩,(ri 3 A_9 258 c_12 Sx.c1),⟨256,2,(GG g_7),1,1,[.slice A_10 258 c_13,I (aU Sx.c2)],false⟩,(ri 3 A_10 258 c_13 Sx.c2),⟨360,4,(GG g_1),1,1,[.slice A_2 x.length c_3,I ((Sx.cd.k+4:Nat):Int), .int .u64 (cuC x Sx.cd), .int .u64 Sx.cd.R],false⟩,(ru 5 A_2 x.length c_3 x)]) (fun(i:Int) (A1:Option Addr) (n1:Nat) (c1:Nat) (acc:List Int) (Sx:PpS)=>(0≤i)∧(i<(bL b).length)∧((n1:Int)=i)∧(acc=(bL b).take i.toNat)∧(Sx=encP o ((bL b).take i.toNat))) (fun(i:Int) (A1:Option Addr) (n1:Nat) (c1:Nat) (acc:List Int) (Sx:PpS)=>((bL b).length-i).toNat) ?_ ?_
 ·exact⟨0,none,0,0,[],pp0,⟨(by omega),(by omega),(Z),(Z),(Z)⟩,(G5 Z Z Z Z Z),fun _ h=>h⟩
 intro i A1 n1 c1 acc Sx ⟨hi0,hi1,hn1,hacc,hS⟩
 have hin:=aCy hsy hS
 have hnx:=aSm bh_b hx hS hi0 hi1
 have hy:=hsy _ (bI (L:=bL b) (k:=i) hi0 (by omega))
 have hcd:=hin.1.2.2
 have hcd2:16777216≤Sx.cd.R∧Sx.cd.R<4294967296:=⟨hcd.1,hcd.2.1⟩
 have hea:=aQr bh_b hi0 hi1
 refine aG<|wq<|wm Z<|wm Z<|aB Z Z<|wm Z<|aB Z Z<|wy (aR underlying52 Z)<|aB Z Z<|wm Z<|aB Z Z<|wy (Yl.t (vL Z Z) (by omega))<|wy (aT Z Z)<|aA ?_
 refine dB Z<|aJ<|aI<|wq ?_
 rcases VE hin.1 ho with hk|hk|hk
 ·refine wm Z<|wa (aD lV Z (Ct.at 1 Z (mK hk))) ?_
  rintro _ _ ⟨rfl,rfl⟩
  refine wa (aD IM Z (Ct.sub (R1:=[⟨256,2,(GG g_5),1,1,[.slice A_8 258 c_11,I (aU Sx.c0)],false⟩,(ri 3 A_8 258 c_11 Sx.c0),(ri 3 A1 n1 c1 acc),⟨250,5,(GG g_4),1,1,[.pointer (GG g_5), .pointer (GG g_6), .pointer (GG g_7),I Sx.cls,I o],false⟩,⟨256,2,(GG g_6),1,1,[.slice A_9 258 c_12,I (aU Sx.c1)],false⟩,(ri 3 A_9 258 c_12 Sx.c1),⟨256,2,(GG g_7),1,1,[.slice A_10 258 c_13,I (aU Sx.c2)],false⟩,(ri 3 A_10 258 c_13 Sx.c2),⟨360,4,(GG g_1),1,1,[.slice A_2 x.length c_3,I ((Sx.cd.k+4:Nat):Int), .int .u64 (cuC x Sx.cd), .int .u64 Sx.cd.R],false⟩,(ru 5 A_2 x.length c_3 x)]) (fun _ h=>h.sel [2,3,0,1,4,5,6,7,8,9] (by decide) Z) (iH))) ?_
  rintro _ _ ⟨rfl,rfl⟩
  refine wg Z<|aA<|wq<|wm Z<|wm Z<|wa (aD aOe Z (Ct.sub (R1:=[⟨360,4,(GG g_1),1,1,[.slice A_2 x.length c_3,I ((Sx.cd.k+4:Nat):Int), .int .u64 (cuC x Sx.cd), .int .u64 Sx.cd.R],false⟩,(ru 5 A_2 x.length c_3 x),⟨256,2,(GG g_5),1,1,[.slice A_8 258 c_11,I (aU Sx.c0)],false⟩,(ri 3 A_8 258 c_11 Sx.c0),(ri 3 A1 n1 c1 acc),⟨250,5,(GG g_4),1,1,[.pointer (GG g_5), .pointer (GG g_6), .pointer (GG g_7),I Sx.cls,I o],false⟩,⟨256,2,(GG g_6),1,1,[.slice A_9 258 c_12,I (aU Sx.c1)],false⟩,(ri 3 A_9 258 c_12 Sx.c1),⟨256,2,(GG g_7),1,1,[.slice A_10 258 c_13,I (aU Sx.c2)],false⟩,(ri 3 A_10 258 c_13 Sx.c2)]) (fun _ h=>h.sel [8,9,0,1,2,3,4,5,6,7] (by decide) Z) (AY Z ((hnx.w0 hk).tot hin.1.1.1 hy.1 hy.2).2 hcd2 ⟨(hnx.w0 hk).c0,(hnx.w0 hk).c1⟩ ((hnx.w0 hk).tot hin.1.1.1 hy.1 hy.2).1))) ?_
  rintro _ _ ⟨rfl,rfl⟩
  refine wm Z<|wX Z Z<|wX Z Z<|wg Z<|wg Z<|aA<|wq<|wm Z<|wa (aD lV Z (Ct.at 5 Z (mK hk))) ?_
  rintro _ _ ⟨rfl,rfl⟩
  refine wm Z<|wa (aD aOd Z (Ct.sub (R1:=[⟨256,2,(GG g_5),1,1,[.slice A_8 258 c_11,I (aU Sx.c0)],false⟩,(ri 3 A_8 258 c_11 Sx.c0),⟨360,4,(GG g_1),1,1,[.slice A_2 x.length c_3,I ((Sx.cd.k+4:Nat):Int), .int .u64 (cuC x Sx.cd), .int .u64 Sx.cd.R],false⟩,(ru 5 A_2 x.length c_3 x),(ri 3 A1 n1 c1 acc),⟨250,5,(GG g_4),1,1,[.pointer (GG g_5), .pointer (GG g_6), .pointer (GG g_7),I Sx.cls,I o],false⟩,⟨256,2,(GG g_6),1,1,[.slice A_9 258 c_12,I (aU Sx.c1)],false⟩,(ri 3 A_9 258 c_12 Sx.c1),⟨256,2,(GG g_7),1,1,[.slice A_10 258 c_13,I (aU Sx.c2)],false⟩,(ri 3 A_10 258 c_13 Sx.c2)]) (fun _ h=>h.sel [2,3,0,1,4,5,6,7,8,9] (by decide) Z) (rZ (by rw[hin.1.1.1.1]) hin.1.1.1 hy ⟨(hnx.w0 hk).v0,(hnx.w0 hk).v1⟩))) ?_
  rintro _ _ ⟨rfl,rfl⟩
  refine wm Z<|wX Z Z<|wX Z Z<|wg Z<|wg Z<|aA<|wq<|wm Z<|wa (aD lV Z (Ct.at 5 Z (mK hk))) ?_
  rintro _ _ ⟨rfl,rfl⟩
  refine wm Z<|wa (aD NA Z (Ct.sub (R1:=[⟨256,2,(GG g_5),1,1,[.slice A_8 258 c_11,I (aU Sx.c0)],false⟩,(ri 3 A_8 258 c_11 Sx.c0),⟨360,4,(GG g_1),1,1,[.slice A_2 x.length c_3,I ((Sx.cd.k+4:Nat):Int), .int .u64 (cuC x Sx.cd), .int .u64 Sx.cd.R],false⟩,(ru 5 A_2 x.length c_3 x),(ri 3 A1 n1 c1 acc),⟨250,5,(GG g_4),1,1,[.pointer (GG g_5), .pointer (GG g_6), .pointer (GG g_7),I Sx.cls,I o],false⟩,⟨256,2,(GG g_6),1,1,[.slice A_9 258 c_12,I (aU Sx.c1)],false⟩,(ri 3 A_9 258 c_12 Sx.c1),⟨256,2,(GG g_7),1,1,[.slice A_10 258 c_13,I (aU Sx.c2)],false⟩,(ri 3 A_10 258 c_13 Sx.c2)]) (fun _ h=>h) (jX (by rw[hin.1.1.1.1]) (by rw[hin.1.1.1.1];exact hy) hin.1.1.1))) ?_
  rintro _ _ ⟨rfl,rfl⟩
  refine wm Z<|wX Z Z<|wX Z Z<|wX Z Z<|wg Z<|wg Z<|wg Z<|aA<|wq<|wm Z<|wm Z<|aB Z Z<|wm Z<|wy (aT Z Z) ?_
  refine wm Z<|aB Z Z<|wm Z<|aB Z Z<|wm Z<|aB Z Z<|wm Z<|aB Z Z<|wm Z<|aB Z Z<|wa (aD aOc Z (Ct.sub (R1:=[⟨360,4,(GG g_1),1,1,[.slice A_2 x.length c_3,I ((Sx.cd.k+4:Nat):Int), .int .u64 (cuC x Sx.cd), .int .u64 Sx.cd.R],false⟩,(ru 5 A_2 x.length c_3 x),⟨256,2,(GG g_5),1,1,[.slice A_8 258 c_11,I (aU Sx.c0)],false⟩,(ri 3 A_8 258 c_11 Sx.c0),(ri 3 A1 n1 c1 acc),⟨250,5,(GG g_4),1,1,[.pointer (GG g_5), .pointer (GG g_6), .pointer (GG g_7),I Sx.cls,I o],false⟩,⟨256,2,(GG g_6),1,1,[.slice A_9 258 c_12,I (aU Sx.c1)],false⟩,(ri 3 A_9 258 c_12 Sx.c1),⟨256,2,(GG g_7),1,1,[.slice A_10 258 c_13,I (aU Sx.c2)],false⟩,(ri 3 A_10 258 c_13 Sx.c2)]) (fun _ h=>h.sel [2,3,0,1,4,5,6,7,8,9] (by decide) Z) (zS Z (by rw[hx];exact gJ _ _) (by omega) hcd2 (lL hin.1.1.1 hy.1 hy.2) (hnx.w0 hk).lo (hnx.w0 hk).hi (hnx.w0 hk).len))) ?_
  rintro _ _ ⟨rfl,rfl⟩
  refine wy (aT Z Z)<|wg Z<|aA<|aG<|wq<|wm Z<|wm Z<|aB Z Z<|wm Z<|aB Z Z<|wy (dI Z Z)<|wy (aT Z Z)<|aA<|bM Z (fun hc1=> ?_) (fun hc1=> ?_)
  ·refine wq<|wm Z<|wg Z<|wg Z<|aA<|bX (R1:=[(ri 3 A1 n1 c1 acc)]) (fun _ h=>h.sel [4] (by decide) Z) ?_
   refine⟨_,_,Z,Z,?_⟩
   have hie:=hea.1 (by assumption)
   have ha2:acc=bC 0 (bB aS b):=by rw[hacc,show i.toNat=(bL b).length-1 by omega];exact zT b
   have hn2:n1=(bC 0 (bB aS b)).length:=by omega
   rw[ha2,hn2]
   exact⟨_,_,Z,Z⟩
  ·refine aJ<|wq<|wm Z<|wm Z<|wa (cB .i64 [rd (bL b) i] underlying52 zs3 Z Z Z) ?_
   rintro _ _ ⟨g_15,rfl,rfl⟩
   refine wa (bD 5 Z underlying52 zb3 Z Z Z (rdr 0 Z) (by omega)) ?_
   rintro _ _ ⟨A_16,c_17,rfl,rfl⟩
   refine bO (v:= .slice A_16 (n1+1) c_17) Z<|wg Z<|aA<|aL<|wm Z<|wm Z<|wa (aD MZ Z (Ct.sub (R1:=[⟨250,5,(GG g_4),1,1,[.pointer (GG g_5), .pointer (GG g_6), .pointer (GG g_7),I Sx.cls,I o],false⟩,⟨256,2,(GG g_5),1,1,[.slice A_8 258 c_11,I (aU Sx.c0)],false⟩,(ri 3 A_8 258 c_11 Sx.c0),(ri 3 (GG g_15) 1 1 ([rd (bL b) i])),⟨360,4,(GG g_1),1,1,[.slice A_2 x.length c_3,I (((gV Sx.cd (aU (Sx.c0.take (rd (bL b) i).toNat)) (rd Sx.c0 (rd (bL b) i)) (aU Sx.c0)).k+4:Nat):Int), .int .u64 (cuC x (gV Sx.cd (aU (Sx.c0.take (rd (bL b) i).toNat)) (rd Sx.c0 (rd (bL b) i)) (aU Sx.c0))), .int .u64 ((gV Sx.cd (aU (Sx.c0.take (rd (bL b) i).toNat)) (rd Sx.c0 (rd (bL b) i)) (aU Sx.c0)).R)],false⟩,(ru 5 A_2 x.length c_3 x),(ri 3 A_16 (n1+1) c_17 (acc++([rd (bL b) i]))),⟨256,2,(GG g_6),1,1,[.slice A_9 258 c_12,I (aU Sx.c1)],false⟩,(ri 3 A_9 258 c_12 Sx.c1),⟨256,2,(GG g_7),1,1,[.slice A_10 258 c_13,I (aU Sx.c2)],false⟩,(ri 3 A_10 258 c_13 Sx.c2)]) (fun _ h=>h.sel [6,3,4,0,1,2,5,7,8,9,10] (by decide) Z) (EX hk (by rw[hin.1.1.1.1];exact hy) hin.1.1.1))) ?_
   rintro _ _ ⟨rfl,rfl⟩
   refine aA ?_
   exact⟨(i+1),A_16,n1+1,c_17,acc++([rd (bL b) i]),(⟨lF Sx.c0 (rd (bL b) i),Sx.c1,Sx.c2,lC (rd (bL b) i),sM Sx.cd Sx.c0 (rd (bL b) i)⟩:PpS),⟨(by omega),(by omega),(by omega),(by rw[dE hi0 (by omega),←hacc]),(qP hS hi0 (by omega) (aBb hk))⟩,(by omega),(G5 Z Z Z Z Z),fun _ h=>h.sel [6,0,1,2,7,8,9,10,4,5] (by decide) Z⟩
 ·refine wm Z<|wa (aD lV Z (Ct.at 1 Z (mJ hk))) ?_
  rintro _ _ ⟨rfl,rfl⟩
  refine wa (aD IM Z (Ct.sub (R1:=[⟨256,2,(GG g_6),1,1,[.slice A_9 258 c_12,I (aU Sx.c1)],false⟩,(ri 3 A_9 258 c_12 Sx.c1),(ri 3 A1 n1 c1 acc),⟨250,5,(GG g_4),1,1,[.pointer (GG g_5), .pointer (GG g_6), .pointer (GG g_7),I Sx.cls,I o],false⟩,⟨256,2,(GG g_5),1,1,[.slice A_8 258 c_11,I (aU Sx.c0)],false⟩,(ri 3 A_8 258 c_11 Sx.c0),⟨256,2,(GG g_7),1,1,[.slice A_10 258 c_13,I (aU Sx.c2)],false⟩,(ri 3 A_10 258 c_13 Sx.c2),⟨360,4,(GG g_1),1,1,[.slice A_2 x.length c_3,I ((Sx.cd.k+4:Nat):Int), .int .u64 (cuC x Sx.cd), .int .u64 Sx.cd.R],false⟩,(ru 5 A_2 x.length c_3 x)]) (fun _ h=>h.sel [4,5,0,1,2,3,6,7,8,9] (by decide) Z) (iH))) ?_
  rintro _ _ ⟨rfl,rfl⟩
  refine wg Z<|aA<|wq<|wm Z<|wm Z<|wa (aD aOe Z (Ct.sub (R1:=[⟨360,4,(GG g_1),1,1,[.slice A_2 x.length c_3,I ((Sx.cd.k+4:Nat):Int), .int .u64 (cuC x Sx.cd), .int .u64 Sx.cd.R],false⟩,(ru 5 A_2 x.length c_3 x),⟨256,2,(GG g_6),1,1,[.slice A_9 258 c_12,I (aU Sx.c1)],false⟩,(ri 3 A_9 258 c_12 Sx.c1),(ri 3 A1 n1 c1 acc),⟨250,5,(GG g_4),1,1,[.pointer (GG g_5), .pointer (GG g_6), .pointer (GG g_7),I Sx.cls,I o],false⟩,⟨256,2,(GG g_5),1,1,[.slice A_8 258 c_11,I (aU Sx.c0)],false⟩,(ri 3 A_8 258 c_11 Sx.c0),⟨256,2,(GG g_7),1,1,[.slice A_10 258 c_13,I (aU Sx.c2)],false⟩,(ri 3 A_10 258 c_13 Sx.c2)]) (fun _ h=>h.sel [8,9,0,1,2,3,4,5,6,7] (by decide) Z) (AY Z ((hnx.w1 hk).tot hin.1.1.2.1 hy.1 hy.2).2 hcd2 ⟨(hnx.w1 hk).c0,(hnx.w1 hk).c1⟩ ((hnx.w1 hk).tot hin.1.1.2.1 hy.1 hy.2).1))) ?_
  rintro _ _ ⟨rfl,rfl⟩
  refine wm Z<|wX Z Z<|wX Z Z<|wg Z<|wg Z<|aA<|wq<|wm Z<|wa (aD lV Z (Ct.at 5 Z (mJ hk))) ?_
  rintro _ _ ⟨rfl,rfl⟩
  refine wm Z<|wa (aD aOd Z (Ct.sub (R1:=[⟨256,2,(GG g_6),1,1,[.slice A_9 258 c_12,I (aU Sx.c1)],false⟩,(ri 3 A_9 258 c_12 Sx.c1),⟨360,4,(GG g_1),1,1,[.slice A_2 x.length c_3,I ((Sx.cd.k+4:Nat):Int), .int .u64 (cuC x Sx.cd), .int .u64 Sx.cd.R],false⟩,(ru 5 A_2 x.length c_3 x),(ri 3 A1 n1 c1 acc),⟨250,5,(GG g_4),1,1,[.pointer (GG g_5), .pointer (GG g_6), .pointer (GG g_7),I Sx.cls,I o],false⟩,⟨256,2,(GG g_5),1,1,[.slice A_8 258 c_11,I (aU Sx.c0)],false⟩,(ri 3 A_8 258 c_11 Sx.c0),⟨256,2,(GG g_7),1,1,[.slice A_10 258 c_13,I (aU Sx.c2)],false⟩,(ri 3 A_10 258 c_13 Sx.c2)]) (fun _ h=>h.sel [2,3,0,1,4,5,6,7,8,9] (by decide) Z) (rZ (by rw[hin.1.1.2.1.1]) hin.1.1.2.1 hy ⟨(hnx.w1 hk).v0,(hnx.w1 hk).v1⟩))) ?_
  rintro _ _ ⟨rfl,rfl⟩
  refine wm Z<|wX Z Z<|wX Z Z<|wg Z<|wg Z<|aA<|wq<|wm Z<|wa (aD lV Z (Ct.at 5 Z (mJ hk))) ?_
  rintro _ _ ⟨rfl,rfl⟩
  refine wm Z<|wa (aD NA Z (Ct.sub (R1:=[⟨256,2,(GG g_6),1,1,[.slice A_9 258 c_12,I (aU Sx.c1)],false⟩,(ri 3 A_9 258 c_12 Sx.c1),⟨360,4,(GG g_1),1,1,[.slice A_2 x.length c_3,I ((Sx.cd.k+4:Nat):Int), .int .u64 (cuC x Sx.cd), .int .u64 Sx.cd.R],false⟩,(ru 5 A_2 x.length c_3 x),(ri 3 A1 n1 c1 acc),⟨250,5,(GG g_4),1,1,[.pointer (GG g_5), .pointer (GG g_6), .pointer (GG g_7),I Sx.cls,I o],false⟩,⟨256,2,(GG g_5),1,1,[.slice A_8 258 c_11,I (aU Sx.c0)],false⟩,(ri 3 A_8 258 c_11 Sx.c0),⟨256,2,(GG g_7),1,1,[.slice A_10 258 c_13,I (aU Sx.c2)],false⟩,(ri 3 A_10 258 c_13 Sx.c2)]) (fun _ h=>h) (jX (by rw[hin.1.1.2.1.1]) (by rw[hin.1.1.2.1.1];exact hy) hin.1.1.2.1))) ?_
  rintro _ _ ⟨rfl,rfl⟩
  refine wm Z<|wX Z Z<|wX Z Z<|wX Z Z<|wg Z<|wg Z<|wg Z<|aA<|wq<|wm Z<|wm Z<|aB Z Z<|wm Z<|wy (aT Z Z) ?_
  refine wm Z<|aB Z Z<|wm Z<|aB Z Z<|wm Z<|aB Z Z<|wm Z<|aB Z Z<|wm Z<|aB Z Z<|wa (aD aOc Z (Ct.sub (R1:=[⟨360,4,(GG g_1),1,1,[.slice A_2 x.length c_3,I ((Sx.cd.k+4:Nat):Int), .int .u64 (cuC x Sx.cd), .int .u64 Sx.cd.R],false⟩,(ru 5 A_2 x.length c_3 x),⟨256,2,(GG g_6),1,1,[.slice A_9 258 c_12,I (aU Sx.c1)],false⟩,(ri 3 A_9 258 c_12 Sx.c1),(ri 3 A1 n1 c1 acc),⟨250,5,(GG g_4),1,1,[.pointer (GG g_5), .pointer (GG g_6), .pointer (GG g_7),I Sx.cls,I o],false⟩,⟨256,2,(GG g_5),1,1,[.slice A_8 258 c_11,I (aU Sx.c0)],false⟩,(ri 3 A_8 258 c_11 Sx.c0),⟨256,2,(GG g_7),1,1,[.slice A_10 258 c_13,I (aU Sx.c2)],false⟩,(ri 3 A_10 258 c_13 Sx.c2)]) (fun _ h=>h.sel [2,3,0,1,4,5,6,7,8,9] (by decide) Z) (zS Z (by rw[hx];exact gJ _ _) (by omega) hcd2 (lL hin.1.1.2.1 hy.1 hy.2) (hnx.w1 hk).lo (hnx.w1 hk).hi (hnx.w1 hk).len))) ?_
  rintro _ _ ⟨rfl,rfl⟩
  refine wy (aT Z Z)<|wg Z<|aA<|aG<|wq<|wm Z<|wm Z<|aB Z Z<|wm Z<|aB Z Z<|wy (dI Z Z)<|wy (aT Z Z)<|aA<|bM Z (fun hc2=> ?_) (fun hc2=> ?_)
  ·refine wq<|wm Z<|wg Z<|wg Z<|aA<|bX (R1:=[(ri 3 A1 n1 c1 acc)]) (fun _ h=>h.sel [4] (by decide) Z) ?_
   refine⟨_,_,Z,Z,?_⟩
   have hie:=hea.1 (by assumption)
   have ha2:acc=bC 0 (bB aS b):=by rw[hacc,show i.toNat=(bL b).length-1 by omega];exact zT b
   have hn2:n1=(bC 0 (bB aS b)).length:=by omega
   rw[ha2,hn2]
   exact⟨_,_,Z,Z⟩
  ·refine aJ<|wq<|wm Z<|wm Z<|wa (cB .i64 [rd (bL b) i] underlying52 zs3 Z Z Z) ?_
   rintro _ _ ⟨g_19,rfl,rfl⟩
   refine wa (bD 5 Z underlying52 zb3 Z Z Z (rdr 0 Z) (by omega)) ?_
   rintro _ _ ⟨A_20,c_21,rfl,rfl⟩
   refine bO (v:= .slice A_20 (n1+1) c_21) Z<|wg Z<|aA<|aL<|wm Z<|wm Z<|wa (aD MZ Z (Ct.sub (R1:=[⟨250,5,(GG g_4),1,1,[.pointer (GG g_5), .pointer (GG g_6), .pointer (GG g_7),I Sx.cls,I o],false⟩,⟨256,2,(GG g_6),1,1,[.slice A_9 258 c_12,I (aU Sx.c1)],false⟩,(ri 3 A_9 258 c_12 Sx.c1),(ri 3 (GG g_19) 1 1 ([rd (bL b) i])),⟨360,4,(GG g_1),1,1,[.slice A_2 x.length c_3,I (((gV Sx.cd (aU (Sx.c1.take (rd (bL b) i).toNat)) (rd Sx.c1 (rd (bL b) i)) (aU Sx.c1)).k+4:Nat):Int), .int .u64 (cuC x (gV Sx.cd (aU (Sx.c1.take (rd (bL b) i).toNat)) (rd Sx.c1 (rd (bL b) i)) (aU Sx.c1))), .int .u64 ((gV Sx.cd (aU (Sx.c1.take (rd (bL b) i).toNat)) (rd Sx.c1 (rd (bL b) i)) (aU Sx.c1)).R)],false⟩,(ru 5 A_2 x.length c_3 x),(ri 3 A_20 (n1+1) c_21 (acc++([rd (bL b) i]))),⟨256,2,(GG g_5),1,1,[.slice A_8 258 c_11,I (aU Sx.c0)],false⟩,(ri 3 A_8 258 c_11 Sx.c0),⟨256,2,(GG g_7),1,1,[.slice A_10 258 c_13,I (aU Sx.c2)],false⟩,(ri 3 A_10 258 c_13 Sx.c2)]) (fun _ h=>h.sel [6,3,4,0,1,2,5,7,8,9,10] (by decide) Z) (EW hk (by rw[hin.1.1.2.1.1];exact hy) hin.1.1.2.1))) ?_
   rintro _ _ ⟨rfl,rfl⟩
   refine aA ?_
   exact⟨(i+1),A_20,n1+1,c_21,acc++([rd (bL b) i]),(⟨Sx.c0,lF Sx.c1 (rd (bL b) i),Sx.c2,lC (rd (bL b) i),sM Sx.cd Sx.c1 (rd (bL b) i)⟩:PpS),⟨(by omega),(by omega),(by omega),(by rw[dE hi0 (by omega),←hacc]),(qP hS hi0 (by omega) (aBa hk))⟩,(by omega),(G5 Z Z Z Z Z),fun _ h=>h.sel [6,0,7,8,1,2,9,10,4,5] (by decide) Z⟩
 ·refine wm Z<|wa (aD lV Z (Ct.at 1 Z (mI hk))) ?_
  rintro _ _ ⟨rfl,rfl⟩
  refine wa (aD IM Z (Ct.sub (R1:=[⟨256,2,(GG g_7),1,1,[.slice A_10 258 c_13,I (aU Sx.c2)],false⟩,(ri 3 A_10 258 c_13 Sx.c2),(ri 3 A1 n1 c1 acc),⟨250,5,(GG g_4),1,1,[.pointer (GG g_5), .pointer (GG g_6), .pointer (GG g_7),I Sx.cls,I o],false⟩,⟨256,2,(GG g_5),1,1,[.slice A_8 258 c_11,I (aU Sx.c0)],false⟩,(ri 3 A_8 258 c_11 Sx.c0),⟨256,2,(GG g_6),1,1,[.slice A_9 258 c_12,I (aU Sx.c1)],false⟩,(ri 3 A_9 258 c_12 Sx.c1),⟨360,4,(GG g_1),1,1,[.slice A_2 x.length c_3,I ((Sx.cd.k+4:Nat):Int), .int .u64 (cuC x Sx.cd), .int .u64 Sx.cd.R],false⟩,(ru 5 A_2 x.length c_3 x)]) (fun _ h=>h.sel [6,7,0,1,2,3,4,5,8,9] (by decide) Z) (iH))) ?_
  rintro _ _ ⟨rfl,rfl⟩
  refine wg Z<|aA<|wq<|wm Z<|wm Z<|wa (aD aOe Z (Ct.sub (R1:=[⟨360,4,(GG g_1),1,1,[.slice A_2 x.length c_3,I ((Sx.cd.k+4:Nat):Int), .int .u64 (cuC x Sx.cd), .int .u64 Sx.cd.R],false⟩,(ru 5 A_2 x.length c_3 x),⟨256,2,(GG g_7),1,1,[.slice A_10 258 c_13,I (aU Sx.c2)],false⟩,(ri 3 A_10 258 c_13 Sx.c2),(ri 3 A1 n1 c1 acc),⟨250,5,(GG g_4),1,1,[.pointer (GG g_5), .pointer (GG g_6), .pointer (GG g_7),I Sx.cls,I o],false⟩,⟨256,2,(GG g_5),1,1,[.slice A_8 258 c_11,I (aU Sx.c0)],false⟩,(ri 3 A_8 258 c_11 Sx.c0),⟨256,2,(GG g_6),1,1,[.slice A_9 258 c_12,I (aU Sx.c1)],false⟩,(ri 3 A_9 258 c_12 Sx.c1)]) (fun _ h=>h.sel [8,9,0,1,2,3,4,5,6,7] (by decide) Z) (AY Z ((hnx.w2 hk).tot hin.1.1.2.2 hy.1 hy.2).2 hcd2 ⟨(hnx.w2 hk).c0,(hnx.w2 hk).c1⟩ ((hnx.w2 hk).tot hin.1.1.2.2 hy.1 hy.2).1))) ?_
  rintro _ _ ⟨rfl,rfl⟩
  refine wm Z<|wX Z Z<|wX Z Z<|wg Z<|wg Z<|aA<|wq<|wm Z<|wa (aD lV Z (Ct.at 5 Z (mI hk))) ?_
  rintro _ _ ⟨rfl,rfl⟩
  refine wm Z<|wa (aD aOd Z (Ct.sub (R1:=[⟨256,2,(GG g_7),1,1,[.slice A_10 258 c_13,I (aU Sx.c2)],false⟩,(ri 3 A_10 258 c_13 Sx.c2),⟨360,4,(GG g_1),1,1,[.slice A_2 x.length c_3,I ((Sx.cd.k+4:Nat):Int), .int .u64 (cuC x Sx.cd), .int .u64 Sx.cd.R],false⟩,(ru 5 A_2 x.length c_3 x),(ri 3 A1 n1 c1 acc),⟨250,5,(GG g_4),1,1,[.pointer (GG g_5), .pointer (GG g_6), .pointer (GG g_7),I Sx.cls,I o],false⟩,⟨256,2,(GG g_5),1,1,[.slice A_8 258 c_11,I (aU Sx.c0)],false⟩,(ri 3 A_8 258 c_11 Sx.c0),⟨256,2,(GG g_6),1,1,[.slice A_9 258 c_12,I (aU Sx.c1)],false⟩,(ri 3 A_9 258 c_12 Sx.c1)]) (fun _ h=>h.sel [2,3,0,1,4,5,6,7,8,9] (by decide) Z) (rZ (by rw[hin.1.1.2.2.1]) hin.1.1.2.2 hy ⟨(hnx.w2 hk).v0,(hnx.w2 hk).v1⟩))) ?_
  rintro _ _ ⟨rfl,rfl⟩
  refine wm Z<|wX Z Z<|wX Z Z<|wg Z<|wg Z<|aA<|wq<|wm Z<|wa (aD lV Z (Ct.at 5 Z (mI hk))) ?_
  rintro _ _ ⟨rfl,rfl⟩
  refine wm Z<|wa (aD NA Z (Ct.sub (R1:=[⟨256,2,(GG g_7),1,1,[.slice A_10 258 c_13,I (aU Sx.c2)],false⟩,(ri 3 A_10 258 c_13 Sx.c2),⟨360,4,(GG g_1),1,1,[.slice A_2 x.length c_3,I ((Sx.cd.k+4:Nat):Int), .int .u64 (cuC x Sx.cd), .int .u64 Sx.cd.R],false⟩,(ru 5 A_2 x.length c_3 x),(ri 3 A1 n1 c1 acc),⟨250,5,(GG g_4),1,1,[.pointer (GG g_5), .pointer (GG g_6), .pointer (GG g_7),I Sx.cls,I o],false⟩,⟨256,2,(GG g_5),1,1,[.slice A_8 258 c_11,I (aU Sx.c0)],false⟩,(ri 3 A_8 258 c_11 Sx.c0),⟨256,2,(GG g_6),1,1,[.slice A_9 258 c_12,I (aU Sx.c1)],false⟩,(ri 3 A_9 258 c_12 Sx.c1)]) (fun _ h=>h) (jX (by rw[hin.1.1.2.2.1]) (by rw[hin.1.1.2.2.1];exact hy) hin.1.1.2.2))) ?_
  rintro _ _ ⟨rfl,rfl⟩
  refine wm Z<|wX Z Z<|wX Z Z<|wX Z Z<|wg Z<|wg Z<|wg Z<|aA<|wq<|wm Z<|wm Z<|aB Z Z<|wm Z<|wy (aT Z Z) ?_
  refine wm Z<|aB Z Z<|wm Z<|aB Z Z<|wm Z<|aB Z Z<|wm Z<|aB Z Z<|wm Z<|aB Z Z<|wa (aD aOc Z (Ct.sub (R1:=[⟨360,4,(GG g_1),1,1,[.slice A_2 x.length c_3,I ((Sx.cd.k+4:Nat):Int), .int .u64 (cuC x Sx.cd), .int .u64 Sx.cd.R],false⟩,(ru 5 A_2 x.length c_3 x),⟨256,2,(GG g_7),1,1,[.slice A_10 258 c_13,I (aU Sx.c2)],false⟩,(ri 3 A_10 258 c_13 Sx.c2),(ri 3 A1 n1 c1 acc),⟨250,5,(GG g_4),1,1,[.pointer (GG g_5), .pointer (GG g_6), .pointer (GG g_7),I Sx.cls,I o],false⟩,⟨256,2,(GG g_5),1,1,[.slice A_8 258 c_11,I (aU Sx.c0)],false⟩,(ri 3 A_8 258 c_11 Sx.c0),⟨256,2,(GG g_6),1,1,[.slice A_9 258 c_12,I (aU Sx.c1)],false⟩,(ri 3 A_9 258 c_12 Sx.c1)]) (fun _ h=>h.sel [2,3,0,1,4,5,6,7,8,9] (by decide) Z) (zS Z (by rw[hx];exact gJ _ _) (by omega) hcd2 (lL hin.1.1.2.2 hy.1 hy.2) (hnx.w2 hk).lo (hnx.w2 hk).hi (hnx.w2 hk).len))) ?_
  rintro _ _ ⟨rfl,rfl⟩
  refine wy (aT Z Z)<|wg Z<|aA<|aG<|wq<|wm Z<|wm Z<|aB Z Z<|wm Z<|aB Z Z<|wy (dI Z Z)<|wy (aT Z Z)<|aA<|bM Z (fun hc3=> ?_) (fun hc3=> ?_)
  ·refine wq<|wm Z<|wg Z<|wg Z<|aA<|bX (R1:=[(ri 3 A1 n1 c1 acc)]) (fun _ h=>h.sel [4] (by decide) Z) ?_
   refine⟨_,_,Z,Z,?_⟩
   have hie:=hea.1 (by assumption)
   have ha2:acc=bC 0 (bB aS b):=by rw[hacc,show i.toNat=(bL b).length-1 by omega];exact zT b
   have hn2:n1=(bC 0 (bB aS b)).length:=by omega
   rw[ha2,hn2]
   exact⟨_,_,Z,Z⟩
  ·refine aJ<|wq<|wm Z<|wm Z<|wa (cB .i64 [rd (bL b) i] underlying52 zs3 Z Z Z) ?_
   rintro _ _ ⟨g_23,rfl,rfl⟩
   refine wa (bD 5 Z underlying52 zb3 Z Z Z (rdr 0 Z) (by omega)) ?_
   rintro _ _ ⟨A_24,c_25,rfl,rfl⟩
   refine bO (v:= .slice A_24 (n1+1) c_25) Z<|wg Z<|aA<|aL<|wm Z<|wm Z<|wa (aD MZ Z (Ct.sub (R1:=[⟨250,5,(GG g_4),1,1,[.pointer (GG g_5), .pointer (GG g_6), .pointer (GG g_7),I Sx.cls,I o],false⟩,⟨256,2,(GG g_7),1,1,[.slice A_10 258 c_13,I (aU Sx.c2)],false⟩,(ri 3 A_10 258 c_13 Sx.c2),(ri 3 (GG g_23) 1 1 ([rd (bL b) i])),⟨360,4,(GG g_1),1,1,[.slice A_2 x.length c_3,I (((gV Sx.cd (aU (Sx.c2.take (rd (bL b) i).toNat)) (rd Sx.c2 (rd (bL b) i)) (aU Sx.c2)).k+4:Nat):Int), .int .u64 (cuC x (gV Sx.cd (aU (Sx.c2.take (rd (bL b) i).toNat)) (rd Sx.c2 (rd (bL b) i)) (aU Sx.c2))), .int .u64 ((gV Sx.cd (aU (Sx.c2.take (rd (bL b) i).toNat)) (rd Sx.c2 (rd (bL b) i)) (aU Sx.c2)).R)],false⟩,(ru 5 A_2 x.length c_3 x),(ri 3 A_24 (n1+1) c_25 (acc++([rd (bL b) i]))),⟨256,2,(GG g_5),1,1,[.slice A_8 258 c_11,I (aU Sx.c0)],false⟩,(ri 3 A_8 258 c_11 Sx.c0),⟨256,2,(GG g_6),1,1,[.slice A_9 258 c_12,I (aU Sx.c1)],false⟩,(ri 3 A_9 258 c_12 Sx.c1)]) (fun _ h=>h.sel [6,3,4,0,1,2,5,7,8,9,10] (by decide) Z) (EU hk (by rw[hin.1.1.2.2.1];exact hy) hin.1.1.2.2))) ?_
   rintro _ _ ⟨rfl,rfl⟩
   refine aA ?_
   exact⟨(i+1),A_24,n1+1,c_25,acc++([rd (bL b) i]),(⟨Sx.c0,Sx.c1,lF Sx.c2 (rd (bL b) i),lC (rd (bL b) i),sM Sx.cd Sx.c2 (rd (bL b) i)⟩:PpS),⟨(by omega),(by omega),(by omega),(by rw[dE hi0 (by omega),←hacc]),(qP hS hi0 (by omega) (aAz hk))⟩,(by omega),(G5 Z Z Z Z Z),fun _ h=>h.sel [6,0,7,8,9,10,1,2,4,5] (by decide) Z⟩
theorem JW {w:World} {A_l:Option Addr} {n_l c_l:Nat} {l:List Int} {most:Int} {q:List Int} (h_l:Rd w A_l n_l c_l 1 (ints .i64 l)) (hb:bkL most l [] 1=some q) (hm:0≤most∧most≤100000) (hN:l.length≤1000000):
  Ct Tryz.prog 273 #[.slice A_l n_l c_l,I most] w.heap.size w [] (fun v R'=> ∃A c,v= .tuple #[.slice A q.length c, .bool true]∧R'=[(ru 5 A q.length c q)]):=by
 obtain rfl:=h_l.lenI
 refine fn2 Tryz.func273 Z Z Z ?_
 have m_l:=h_l.max
 refine wq<|wg Z<|wg Z<|aA<|aG<|wq<|wm Z<|wy (Yl.f (fG Z Z) (by omega))<|aA<|aQ Z<|aJ<|wq ?_
 refine wa (cB .u8 [] underlying22 zs5 Z Z Z) ?_
 rintro _ _ ⟨g_2,rfl,rfl⟩
 refine wg Z<|aA<|wq<|wg Z<|aA<|aG<|wq<|wm Z<|wy (aR underlying52 Z)<|wm Z<|aA<|aI ?_
 refine nN (fun(i:Int) (A1:Option Addr) (n1:Nat) (c1:Nat) (acc:List Int) (p:Int)=>[(1,I most),(6, .slice A1 n1 c1),(7,I p),(14, .slice A_l l.length c_l),(15,I ((l.length:Nat):Int)),(16,I i)]) (fun(i:Int) (A1:Option Addr) (n1:Nat) (c1:Nat) (acc:List Int) (p:Int)=>[(ru 5 A1 n1 c1 acc)]) (fun(i:Int) (A1:Option Addr) (n1:Nat) (c1:Nat) (acc:List Int) (p:Int)=>(0≤i)∧(i≤l.length)∧(n1=acc.length)∧(1≤p∧p≤200000)∧((acc.length:Int)≤most)∧(bkL most (l.drop i.toNat) acc p=some q)) (fun(i:Int) (A1:Option Addr) (n1:Nat) (c1:Nat) (acc:List Int) (p:Int)=>(l.length-i).toNat) ?_ ?_
 ·exact⟨0,GG g_2,0,0,[],1,⟨(by omega),(by omega),(Z),(by omega),(by show(0:Int)≤most;omega),(hb)⟩,(G6 Z Z Z Z Z Z),fun _ h=>h⟩
 intro i A1 n1 c1 acc p ⟨hi0,hi1,hn1,hp,hal,hbk⟩
 refine wq<|wL Z Z<|aA<|aG<|bM Z (fun hc1=> ?_) (fun hc1=> ?_)
 ·have hbi:=aYv hbk hi0 (by omega)
  refine aJ<|aG<|aI<|wq<|wy (aH underlying52 sz3 Z Z (h_l.c _) (by omega) (by omega))<|wy (aX underlying3 Z Z (h_l.c _) (by omega) (by omega))<|wg Z<|aA<|aG<|aI<|wq<|wm Z<|wy (Yl.f (fG Z Z) (by omega)) ?_
  refine wm Z<|aB Z Z<|wm Z<|aB Z Z<|wy (Yl.f (jS Z Z) (by omega))<|wy (aP Z Z)<|wg Z<|aA<|aQ Z<|wq<|wm Z<|wy (jS Z Z)<|wg Z<|aA ?_
  refine bM Z (fun hc2=> ?_) (fun hc2=> ?_)
  ·obtain ⟨_,h3,h4⟩:=hbi.2.resolve_right (fun h=>by omega)
   refine wq<|wm Z<|wm Z<|wS Z Z<|wy (iA underlying3 underlying5 Z)<|wa (cB .u8 [((rd l i)-1)%256] underlying22 zs5 Z Z Z) ?_
   rintro _ _ ⟨g_5,rfl,rfl⟩
   refine wa (bD 1 Z underlying22 zb5 Z Z Z (rdr 0 Z) (by omega)) ?_
   rintro _ _ ⟨A_6,c_7,rfl,rfl⟩
   refine bO (v:= .slice A_6 (n1+1) c_7) Z<|wg Z<|aA<|aL<|wg Z<|aA<|wq<|wm Z<|wy (aR underlying22 Z)<|wm Z<|wy (Yl.f (dR Z Z) (by omega))<|aA<|aQ Z<|aJ ?_
   refine aL<|wA Z Z<|wm Z<|aA ?_
   exact⟨i+1,A_6,n1+1,c_7,acc++([((rd l i)-1)%256]),1,⟨(by omega),(by omega),(by rw[List.length_append,hn1];simp),(by omega),(by rw[List.length_append,List.length_singleton];omega),(by rw[Int.emod_eq_of_lt (by omega) (by omega)];exact h4)⟩,(by omega),(G6 Z Z Z Z Z Z),fun _ h=>h.sel [1] (by decide) Z⟩
  ·obtain ⟨_,h3,hz,h5⟩:=hbi.2.resolve_left (fun h=>by omega)
   have hxp:(rd l i+1)*p=p∨(rd l i+1)*p=2*p:=by
    rcases(by omega:rd l i=0∨rd l i=1) with e|e<;>rw[e]<;>omega
   obtain⟨zn,hzn⟩: ∃zn:Nat,(rd l i+1)*p=(zn:Int):=⟨((rd l i+1)*p).toNat,by omega⟩
   refine wq<|wm Z<|wA Z Z<|wm Z<|wy (Yl.is (iF Z Z (by omega)) (by rw[hzn])) ?_
   refine wg Z<|aA<|aG<|wq<|wm Z<|wm Z<|wy (Yl.f (dR Z Z) (by omega))<|wm Z<|aB Z Z<|wm Z<|aB Z Z<|wm Z<|aB Z Z<|wm Z ?_
   refine aB Z Z<|wy (aR underlying22 Z)<|aB Z Z<|wS Z Z<|aB Z Z<|wy (Yl.f (dR Z Z) (by omega))<|wy (aP Z Z)<|aA<|aQ Z<|aJ<|wq<|wm Z<|wm Z<|wa (aQb (m:=zn) 0 Z underlying22 underlying3 zb5 Z Z (by omega) (by omega) (by omega)) ?_
   rintro _ _ ⟨A_8,c_9,rfl,rfl⟩
   refine wg Z<|aA<|aL<|wm Z<|wy (iF Z Z (by omega))<|wg Z<|aA<|wq<|wm Z<|wy (aR underlying22 Z)<|wm Z<|wy (Yl.f (dR Z Z) (by omega))<|aA<|aQ Z ?_
   refine aJ<|aL<|wA Z Z<|wm Z<|aA ?_
   exact⟨i+1,A_8,n1+zn,c_9,acc++List.replicate zn 0,p*2,⟨(by omega),(by omega),(by rw[List.length_append,hn1];simp),(by omega),(by rw[List.length_append,List.length_replicate];omega),(by rw[show zn=((rd l i+1)*p).toNat by omega];exact h5)⟩,(by omega),(G6 Z Z Z Z Z Z),fun _ h=>h⟩
 ·refine aZ<|wq<|wm Z<|wg Z<|wg Z<|aA<|bA [0] 99 (by decide) Z ?_
  refine⟨_,_,Z,Z,?_⟩
  have hdr:l.drop i.toNat=[]:=List.drop_eq_nil_of_le (by omega)
  rw[hdr] at hbk
  have hq:acc=q:=Option.some.inj hbk
  subst hq
  subst hn1
  exact⟨_,_,Z,Z⟩
set_option maxHeartbeats 1000000 in
theorem QM {w:World} {A_x:Option Addr} {n_x c_x:Nat} {x:List Int} {o:Int} {most:Int} {b:List Int} (h_x:Rd w A_x n_x c_x 1 (ints .u8 x)) (hx:x=dJ b o) (bh_b:aN b) (ho:o=0∨o=1) (hN:b.length≤100000) (hm:(b.length:Int)≤most):
  Ct Tryz.prog 229 #[.slice A_x n_x c_x,I o,I most] w.heap.size w [] (fun v R'=> ∃A c,v= .tuple #[.slice A b.length c, .bool true]∧R'=[(ru 5 A b.length c b)]):=by
 obtain rfl:=h_x.lenI
 refine fn2 Tryz.func229 Z Z Z ?_
 have m_x:=h_x.max
 have hsy:=qL bh_b
 have hxl:x.length≤2*b.length+6:=by rw[hx];exact nX bh_b
 have hx4:4≤x.length:=by rw[hx];unfold dJ;rw[kQ];omega
 have hs1:(bL b).length=(bC 0 (bB aS b)).length+1:=by unfold bL;rw[List.length_append];rfl
 have htl:=oM (bB aS b) 0
 rw[jW] at htl
 have hmv:=jW b aS
 refine wq<|wg Z<|wg Z<|aA<|aG<|wq<|wm Z<|wa (aD aWd Z (Ct.quiet (fun w hw=>yM ho))) ?_
 rintro _ _ ⟨rfl,rfl⟩
 refine wy (dH Z)<|wm Z<|aB Z Z<|wm Z<|aB Z Z<|wy (Yl.f (fG Z Z) (by omega))<|wy (aP Z Z)<|aA<|aQ Z<|aJ<|wq<|wm Z<|wy (sQ Z Z)<|wg Z ?_
 refine aA<|wq<|wm Z<|wm Z<|wm Z<|wa (aD bBe Z (Ct.fresh (fun w hw=>OC ((h_x.c _) w hw) hx bh_b ho hN (by omega)))) ?_
 rintro _ _ ⟨_,rfl,A_1,c_2,rfl,rfl⟩
 refine wm Z<|wX Z Z<|wX Z Z<|wg Z<|wg Z<|aA<|aG<|wq<|wm Z<|wy (dH Z)<|aA<|aQ Z<|aJ<|aG ?_
 refine aL<|wm Z<|wm Z<|wa (aD bBd Z (Ct.fresh (fun w hw=>JW ((rdr 0 Z) w hw) (aYu (oW bh_b) (by omega)) (by omega) (by omega)))) ?_
 rintro _ _ ⟨_,rfl,A_4,c_5,rfl,rfl⟩
 refine wm Z<|wX Z Z<|wX Z Z<|wg Z<|wg Z<|aA<|aG<|wq<|wm Z<|wy (dH Z)<|aA<|aQ Z<|aJ<|aG ?_
 refine aL<|wm Z<|wa (aD bCt Z (Ct.fresh (fun w hw=>aIj ((rdr 0 Z) w hw) (oW bh_b) (by omega)))) ?_
 rintro _ _ ⟨_,rfl,A_7,c_8,rfl,rfl⟩
 refine wg Z<|aA<|aG<|wq<|wm Z<|wm Z<|wa (aD aTs Z (Ct.fresh (fun w hw=>vE ((rdr 0 Z) w hw) (by rw[rR bh_b];exact bh_b) ho (by rw[rR bh_b];exact hN)))) ?_
 rintro _ _ ⟨_,rfl,A_10,c_11,rfl,rfl⟩
 refine wm Z<|wX Z Z<|wX Z Z<|wg Z<|wg Z<|aA<|wq<|wm Z<|wm Z<|wa (aD bBc Z (Ct.quiet (fun w hw=>aGt ((rdr 0 Z) w hw) ((h_x.c _) w hw) (gJ _ _) (by rw[hx];exact gJ _ _)))) ?_
 rintro _ _ ⟨rfl,rfl⟩
 refine pQ 50 Z (by rw[rR bh_b,hx]) ?_
 refine wy (dH Z)<|aA<|aQ Z<|aJ<|wq<|wm Z<|wg Z<|wg Z<|aA<|bX (R1:=[(ru 5 A_7 (((bB aS b)).length) c_8 (mW aS (bB aS b)))]) (fun _ h=>h.sel [1] (by decide) Z) ?_
 refine⟨_,_,Z,Z,?_⟩
 rw[hmv,rR bh_b]
 exact⟨_,_,Z,Z⟩
end Go.Proofs.YtdbebmmhdefgdaaGreat

namespace Go.Proofs.YtdbebmmhdefgdaaGreat
open Go Go.Eng Go.Pure
open Tryz
set_option maxRecDepth 100000
theorem pW {B:Nat} {w0:World} {X R0:List Row} {g gc:Nat} {A_u At:Option Addr} {n_u c_u nt ct:Nat} {u:List Int} {p0 p1 p2 p3 ms tt ls:Int} (V:Int) (t:List Int) (h_u:RdC B w0 R0 A_u n_u c_u 1 (ints .u8 u)) (hn_u:n_u=u.length) (hN:u.length≤1000000) (bh_u:aN u) (hV:0≤V∧V≤9223372036854775807) (hu:u=bQ V++t):
  Ct Tryz.prog 90 #[.pointer (GG g)] B w0 (⟨87,10,(GG g),1,1,[.pointer (GG gc),I p0,I p1,I p2,I p3,I ms,I tt,I ls, .slice At nt ct, .slice none 0 0],false⟩::⟨146,1,(GG gc),1,1,[.slice A_u n_u c_u],false⟩::(X++R0)) (fun v R'=> ∃(A9:Option Addr) (c9:Nat),RdC B w0 R0 A9 (t).length c9 1 (ints .u8 (t))∧v= .tuple #[I V, .bool true]∧R'=⟨87,10,(GG g),1,1,[.pointer (GG gc),I p0,I p1,I p2,I p3,I ms,I tt,I ls, .slice At nt ct, .slice none 0 0],false⟩::⟨146,1,(GG gc),1,1,[.slice A9 ((t).length) c9],false⟩::(X++R0)):=
 (yD (R:=X++R0) (m:=(bQ V).length) (RdC.right h_u X) hn_u hN bh_u (by rw[hu];exact sP.of ⟨hV.1,by omega⟩ t) hV.2).mono fun v R' hv=>by
  obtain⟨rfl,rfl⟩:=hv
  have e:=RdC.fromI (l:=(bQ V).length) h_u (by rw[hn_u,hu,List.length_append];omega)
  have hl:n_u-(bQ V).length=t.length:=by rw[hn_u,hu,List.length_append];omega
  have hd:u.drop (bQ V).length=t:=by rw[hu];exact List.drop_left
  rw[hl,hd] at e
  rw[hl]
  exact⟨_,_,e,Z,Z⟩
theorem aAy {B:Nat} {w0:World} {X R0:List Row} {gc:Nat} {A_u:Option Addr} {n_u c_u:Nat} {u:List Int} {k:Int} (a t:List Int) (h_u:RdC B w0 R0 A_u n_u c_u 1 (ints .u8 u)) (hn_u:n_u=u.length) (hN:u.length≤1000000) (hk:k=(a.length:Int)) (hu:u=a++t):
  Ct Tryz.prog 156 #[.pointer (GG gc),I k] B w0 (⟨146,1,(GG gc),1,1,[.slice A_u n_u c_u],false⟩::(X++R0)) (fun v R'=> ∃(A1:Option Addr) (c1:Nat),∃(A9:Option Addr) (c9:Nat),RdC B w0 R0 A9 (t).length c9 1 (ints .u8 (t))∧v= .tuple #[.slice A1 a.length c1, .bool true]∧R'=(ru 5 A1 a.length c1 a)::⟨146,1,(GG gc),1,1,[.slice A9 ((t).length) c9],false⟩::(X++R0)):=
 (vY (R:=X++R0) (k:=k) (RdC.right h_u X) hn_u hN (by rw[hu,List.length_append];omega)).mono fun v R' hv=>by
  obtain⟨A1,c1,rfl,rfl⟩:=hv
  have hkn:k.toNat=a.length:=by omega
  have e:=RdC.fromI (l:=a.length) h_u (by rw[hn_u,hu,List.length_append];omega)
  have hl:n_u-a.length=t.length:=by rw[hn_u,hu,List.length_append];omega
  have hd:u.drop a.length=t:=by rw[hu];exact List.drop_left
  have ht:u.take a.length=a:=by rw[hu];exact List.take_left
  rw[hl,hd] at e
  rw[hkn,hl,ht]
  exact⟨_,_,_,_,e,Z,Z⟩
theorem aNp {B:Nat} {w0:World} {X R0:List Row} {gc:Nat} {A_u:Option Addr} {n_u c_u:Nat} {u:List Int} {x:Int} {t:List Int} (h_u:RdC B w0 R0 A_u n_u c_u 1 (ints .u8 u)) (hn_u:n_u=u.length) (hN:u.length≤1000000) (hx:0≤x∧x<4294967296) (hu:u=iE x++t):
  Ct Tryz.prog 228 #[.pointer (GG gc)] B w0 (⟨146,1,(GG gc),1,1,[.slice A_u n_u c_u],false⟩::(X++R0)) (fun v R'=> ∃(A9:Option Addr) (c9:Nat),RdC B w0 R0 A9 (t).length c9 1 (ints .u8 (t))∧v= .tuple #[.int .u32 x, .bool true]∧R'=⟨146,1,(GG gc),1,1,[.slice A9 ((t).length) c9],false⟩::(X++R0)):=by
 subst hn_u
 have hb0:=(iV x).rd 0
 have hb1:=(iV x).rd 1
 have hb2:=(iV x).rd 2
 have hb3:=(iV x).rd 3
 refine fn2 Tryz.func228 Z Z Z ?_
 refine wq<|wg Z<|wg Z<|aA<|wq<|wm Z<|wa (aD aDb Z ((aAy (X:=([]++X)) (R0:=R0) (iE x) (t) h_u Z hN Z hu))) ?_
 rintro _ _ ⟨A_4,c_5,A_1,c_2,hr_3,rfl,rfl⟩
 refine iZ (R1:=((ru 5 A_4 4 c_5 (iE x))::⟨146,1,(GG gc),1,1,[.slice A_1 ((t).length) c_2],false⟩::(X++R0))) Z<|bO (v:= .tuple #[.slice A_4 4 c_5, .bool true]) Z<|wm Z<|wX Z Z<|wX Z Z<|wg Z<|wg Z<|aA<|aG<|wq<|wm Z<|wy (dH Z)<|aA<|aQ Z ?_
 refine aJ<|wq<|wg Z<|aA<|aG<|wq<|wm Z<|wy (aR underlying22 Z)<|wm Z<|aA<|aI<|qK 5<|eB ?_
 refine wq<|wy (Yl.t (fG Z Z) (by decide))<|aA<|aG<|dB Z<|aJ<|aG<|aI<|wq<|wm Z<|wy (aH underlying22 sz5 Z Z (rdr 0 Z) (by omega) (by omega))<|wy (aX underlying5 Z Z (rdr 0 Z) (by omega) (by omega))<|wg Z ?_
 refine wg Z<|aA<|aL<|wm Z<|wm Z<|wy (wY underlying5 underlying123 Z (by omega))<|wm Z<|wy (Yl.is (iF Z Z (by omega)) (Z:_=Value.int .i64 0))<|wy (CW (k:=0) (m:=1) Z Z Z (by omega) Z)<|wy (NV (p:=(rd (iE x) 0)) (m:=1) 0 Z Z Z (by omega) (by omega))<|wg Z<|aA<|aL<|wy (Yl.is (dG Z Z (by omega)) (Z:_=Value.int .i64 1))<|wm Z ?_
 refine aA<|eB<|wq<|wy (Yl.t (fG Z Z) (by decide))<|aA<|aG<|dB Z<|aJ<|aG<|aI<|wq<|wm Z<|wy (aH underlying22 sz5 Z Z (rdr 0 Z) (by omega) (by omega)) ?_
 refine wy (aX underlying5 Z Z (rdr 0 Z) (by omega) (by omega))<|wg Z<|wg Z<|aA<|aL<|wm Z<|wm Z<|wy (wY underlying5 underlying123 Z (by omega))<|wm Z<|wy (Yl.is (iF Z Z (by omega)) (Z:_=Value.int .i64 8))<|wy (CW (k:=8) (m:=256) Z Z Z (by omega) Z)<|wy (NV (p:=(rd (iE x) 1)) (m:=256) 8 Z Z Z (by omega) (by omega))<|wg Z<|aA<|aL ?_
 refine wy (Yl.is (dG Z Z (by omega)) (Z:_=Value.int .i64 2))<|wm Z<|aA<|eB<|wq<|wy (Yl.t (fG Z Z) (by decide))<|aA<|aG<|dB Z<|aJ<|aG<|aI<|wq ?_
 refine wm Z<|wy (aH underlying22 sz5 Z Z (rdr 0 Z) (by omega) (by omega))<|wy (aX underlying5 Z Z (rdr 0 Z) (by omega) (by omega))<|wg Z<|wg Z<|aA<|aL<|wm Z<|wm Z<|wy (wY underlying5 underlying123 Z (by omega))<|wm Z<|wy (Yl.is (iF Z Z (by omega)) (Z:_=Value.int .i64 16))<|wy (CW (k:=16) (m:=65536) Z Z Z (by omega) Z)<|wy (NV (p:=(rd (iE x) 2)) (m:=65536) 16 Z Z Z (by omega) (by omega))<|wg Z ?_
 refine aA<|aL<|wy (Yl.is (dG Z Z (by omega)) (Z:_=Value.int .i64 3))<|wm Z<|aA<|eB<|wq<|wy (Yl.t (fG Z Z) (by decide))<|aA<|aG<|dB Z<|aJ<|aG<|aI ?_
 refine wq<|wm Z<|wy (aH underlying22 sz5 Z Z (rdr 0 Z) (by omega) (by omega))<|wy (aX underlying5 Z Z (rdr 0 Z) (by omega) (by omega))<|wg Z<|wg Z<|aA<|aL<|wm Z<|wm Z<|wy (wY underlying5 underlying123 Z (by omega))<|wm Z<|wy (Yl.is (iF Z Z (by omega)) (Z:_=Value.int .i64 24))<|wy (CW (k:=24) (m:=16777216) Z Z Z (by omega) Z) ?_
 refine wy (NV (p:=(rd (iE x) 3)) (m:=16777216) 24 Z Z Z (by omega) (by omega))<|wg Z<|aA<|aL<|wy (Yl.is (dG Z Z (by omega)) (Z:_=Value.int .i64 4))<|wm Z<|aA<|eB<|wq<|wy (Yl.f (fG Z Z) (by decide))<|aA<|aG<|aQ Z<|aZ ?_
 refine wq<|wm Z<|wg Z<|wg Z<|aA ?_
 have he:0+(rd (iE x) 0)*1+(rd (iE x) 1)*256+(rd (iE x) 2)*65536+(rd (iE x) 3)*16777216=x:=aTl hx
 refine bA [1] 2 (by decide) Z ?_
 refine⟨_,_,Z,Z,?_⟩
 rw[he]
 exact⟨_,_,hr_3,Z,Z⟩
theorem IA {B:Nat} {w0:World} {R:List Row} {g gc:Nat} {At:Option Addr} {nt ct:Nat} {p1 p2 p3 ms tt ls n:Int} (hn:n≤p3) (hb:(-1000000≤ms∧ms≤1000000)∧(0≤tt∧tt≤1000000)):
  Ct Tryz.prog 158 #[.pointer (GG g),I n] B w0 (⟨87,10,(GG g),1,1,[.pointer (GG gc),I 0,I p1,I p2,I p3,I ms,I tt,I ls, .slice At nt ct, .slice none 0 0],false⟩::R) (fun v R'=>v= .bool (decide (n≤ms-tt))∧R'=⟨87,10,(GG g),1,1,[.pointer (GG gc),I 0,I p1,I p2,I p3,I ms,I tt,I ls, .slice At nt ct, .slice none 0 0],false⟩::R):=by
 refine fn1 Tryz.func158 Z Z Z ?_
 refine wq<|wg Z<|aA<|aG<|wq<|wm Z<|wy (aF Z)<|wy (aC (off:=1) (m:=1) underlying87 Z gL Z Z Z)<|wy (aC (off:=0) (m:=1) underlying27 Z sz3 Z Z Z)<|wy (aK (rdr 0 Z) underlying3 Z Z Z)<|wy (Yl.f (dI Z Z) (by decide))<|wm Z<|aO Z Z Z Z ?_
 refine aO Z Z Z Z<|aO Z Z Z Z<|aO Z Z Z Z<|aO Z Z Z Z<|wy (aP Z Z)<|wm Z<|aB Z Z<|wm Z<|aB Z Z<|wy (aF Z)<|aB Z Z<|wy (aC (off:=1) (m:=1) underlying87 Z gL Z Z Z)<|aB Z Z<|wy (aC (off:=0) (m:=1) underlying27 Z sz3 Z Z Z)<|aB Z Z ?_
 refine wy (aK (rdr 0 Z) underlying3 Z Z Z)<|aB Z Z<|wy (Yl.t (iT Z Z) (by decide))<|aB Z Z<|wm Z<|aB Z Z<|wm Z<|aB Z Z<|wm Z<|aB Z Z<|wy (aF Z)<|aB Z Z<|wy (aC (off:=1) (m:=1) underlying87 Z gL Z Z Z)<|aB Z Z<|wy (aC (off:=3) (m:=4) underlying27 Z sz3 Z Z Z) ?_
 refine aB Z Z<|wy (aK (rdr 0 Z) underlying3 Z Z Z)<|aB Z Z<|wy (Yl.f (dR Z Z) (by omega))<|aB Z Z<|wy (aT Z Z)<|wy (aP Z Z)<|aA<|aQ Z<|aJ<|aG<|bT mixed<|wD 0 Z (aM Z)<|wD 1 Z (aM Z)<|wD 2 Z (aF Z) ?_
 refine wD 3 Z (aC (off:=5) (m:=5) underlying87 Z sz3 Z Z Z)<|wD 4 Z (aK (rdr 0 Z) underlying3 Z Z Z)<|wD 5 Z (aM Z)<|wD 6 Z (aF Z)<|wD 7 Z (aC (off:=6) (m:=6) underlying87 Z sz3 Z Z Z)<|wD 8 Z (aK (rdr 0 Z) underlying3 Z Z Z)<|wD 9 Z (oI Z Z (by omega))<|wD 10 Z (vL Z Z)<|wD 11 Z (bV Z)<|bP (by kernel_rfl)<|bX (R1:=(⟨87,10,(GG g),1,1,[.pointer (GG gc),I 0,I p1,I p2,I p3,I ms,I tt,I ls, .slice At nt ct, .slice none 0 0],false⟩::R)) (fun _ h=>h) ?_
 refine⟨_,Z,?_⟩
 exact⟨Z,Z⟩
theorem HZ {B:Nat} {w0:World} {R:List Row} {g gc:Nat} {At:Option Addr} {nt ct:Nat} {p1 p2 p3 ms tt ls n:Int} (hn:n≤p3) (hb:(-1000000≤ms∧ms≤1000000)∧(0≤tt∧tt≤1000000)):
  Ct Tryz.prog 158 #[.pointer (GG g),I n] B w0 (⟨87,10,(GG g),1,1,[.pointer (GG gc),I 1,I p1,I p2,I p3,I ms,I tt,I ls, .slice At nt ct, .slice none 0 0],false⟩::R) (fun v R'=>v= .bool (decide (n≤ms-tt))∧R'=⟨87,10,(GG g),1,1,[.pointer (GG gc),I 1,I p1,I p2,I p3,I ms,I tt,I ls, .slice At nt ct, .slice none 0 0],false⟩::R):=by
 refine fn1 Tryz.func158 Z Z Z ?_
 refine wq<|wg Z<|aA<|aG<|wq<|wm Z<|wy (aF Z)<|wy (aC (off:=1) (m:=1) underlying87 Z gL Z Z Z)<|wy (aC (off:=0) (m:=1) underlying27 Z sz3 Z Z Z)<|wy (aK (rdr 0 Z) underlying3 Z Z Z)<|wy (Yl.f (dI Z Z) (by decide))<|wm Z<|aO Z Z Z Z ?_
 refine aO Z Z Z Z<|aO Z Z Z Z<|aO Z Z Z Z<|aO Z Z Z Z<|wy (aP Z Z)<|wm Z<|aB Z Z<|wm Z<|aB Z Z<|wy (aF Z)<|aB Z Z<|wy (aC (off:=1) (m:=1) underlying87 Z gL Z Z Z)<|aB Z Z<|wy (aC (off:=0) (m:=1) underlying27 Z sz3 Z Z Z)<|aB Z Z ?_
 refine wy (aK (rdr 0 Z) underlying3 Z Z Z)<|aB Z Z<|wy (Yl.t (iT Z Z) (by decide))<|aB Z Z<|wm Z<|aB Z Z<|wm Z<|aB Z Z<|wm Z<|aB Z Z<|wy (aF Z)<|aB Z Z<|wy (aC (off:=1) (m:=1) underlying87 Z gL Z Z Z)<|aB Z Z<|wy (aC (off:=3) (m:=4) underlying27 Z sz3 Z Z Z) ?_
 refine aB Z Z<|wy (aK (rdr 0 Z) underlying3 Z Z Z)<|aB Z Z<|wy (Yl.f (dR Z Z) (by omega))<|aB Z Z<|wy (aT Z Z)<|wy (aP Z Z)<|aA<|aQ Z<|aJ<|aG<|bT mixed<|wD 0 Z (aM Z)<|wD 1 Z (aM Z)<|wD 2 Z (aF Z) ?_
 refine wD 3 Z (aC (off:=5) (m:=5) underlying87 Z sz3 Z Z Z)<|wD 4 Z (aK (rdr 0 Z) underlying3 Z Z Z)<|wD 5 Z (aM Z)<|wD 6 Z (aF Z)<|wD 7 Z (aC (off:=6) (m:=6) underlying87 Z sz3 Z Z Z)<|wD 8 Z (aK (rdr 0 Z) underlying3 Z Z Z)<|wD 9 Z (oI Z Z (by omega))<|wD 10 Z (vL Z Z)<|wD 11 Z (bV Z)<|bP (by kernel_rfl)<|bX (R1:=(⟨87,10,(GG g),1,1,[.pointer (GG gc),I 1,I p1,I p2,I p3,I ms,I tt,I ls, .slice At nt ct, .slice none 0 0],false⟩::R)) (fun _ h=>h) ?_
 refine⟨_,Z,?_⟩
 exact⟨Z,Z⟩
theorem HY {B:Nat} {w0:World} {R:List Row} {g gc:Nat} {At:Option Addr} {nt ct:Nat} {p1 p2 p3 ms tt ls n:Int} (hn:n≤p3) (hb:(-1000000≤ms∧ms≤1000000)∧(0≤tt∧tt≤1000000)):
  Ct Tryz.prog 158 #[.pointer (GG g),I n] B w0 (⟨87,10,(GG g),1,1,[.pointer (GG gc),I 2,I p1,I p2,I p3,I ms,I tt,I ls, .slice At nt ct, .slice none 0 0],false⟩::R) (fun v R'=>v= .bool (decide (n≤ms-tt))∧R'=⟨87,10,(GG g),1,1,[.pointer (GG gc),I 2,I p1,I p2,I p3,I ms,I tt,I ls, .slice At nt ct, .slice none 0 0],false⟩::R):=by
 refine fn1 Tryz.func158 Z Z Z ?_
 refine wq<|wg Z<|aA<|aG<|wq<|wm Z<|wy (aF Z)<|wy (aC (off:=1) (m:=1) underlying87 Z gL Z Z Z)<|wy (aC (off:=0) (m:=1) underlying27 Z sz3 Z Z Z)<|wy (aK (rdr 0 Z) underlying3 Z Z Z)<|wy (Yl.f (dI Z Z) (by decide))<|wm Z<|aO Z Z Z Z ?_
 refine aO Z Z Z Z<|aO Z Z Z Z<|aO Z Z Z Z<|aO Z Z Z Z<|wy (aP Z Z)<|wm Z<|aB Z Z<|wm Z<|aB Z Z<|wy (aF Z)<|aB Z Z<|wy (aC (off:=1) (m:=1) underlying87 Z gL Z Z Z)<|aB Z Z<|wy (aC (off:=0) (m:=1) underlying27 Z sz3 Z Z Z)<|aB Z Z ?_
 refine wy (aK (rdr 0 Z) underlying3 Z Z Z)<|aB Z Z<|wy (Yl.t (iT Z Z) (by decide))<|aB Z Z<|wm Z<|aB Z Z<|wm Z<|aB Z Z<|wm Z<|aB Z Z<|wy (aF Z)<|aB Z Z<|wy (aC (off:=1) (m:=1) underlying87 Z gL Z Z Z)<|aB Z Z<|wy (aC (off:=3) (m:=4) underlying27 Z sz3 Z Z Z) ?_
 refine aB Z Z<|wy (aK (rdr 0 Z) underlying3 Z Z Z)<|aB Z Z<|wy (Yl.f (dR Z Z) (by omega))<|aB Z Z<|wy (aT Z Z)<|wy (aP Z Z)<|aA<|aQ Z<|aJ<|aG<|bT mixed<|wD 0 Z (aM Z)<|wD 1 Z (aM Z)<|wD 2 Z (aF Z) ?_
 refine wD 3 Z (aC (off:=5) (m:=5) underlying87 Z sz3 Z Z Z)<|wD 4 Z (aK (rdr 0 Z) underlying3 Z Z Z)<|wD 5 Z (aM Z)<|wD 6 Z (aF Z)<|wD 7 Z (aC (off:=6) (m:=6) underlying87 Z sz3 Z Z Z)<|wD 8 Z (aK (rdr 0 Z) underlying3 Z Z Z)<|wD 9 Z (oI Z Z (by omega))<|wD 10 Z (vL Z Z)<|wD 11 Z (bV Z)<|bP (by kernel_rfl)<|bX (R1:=(⟨87,10,(GG g),1,1,[.pointer (GG gc),I 2,I p1,I p2,I p3,I ms,I tt,I ls, .slice At nt ct, .slice none 0 0],false⟩::R)) (fun _ h=>h) ?_
 refine⟨_,Z,?_⟩
 exact⟨Z,Z⟩
theorem aFt {B:Nat} {w0:World} {R:List Row} {g gc:Nat} {At:Option Addr} {nt ct:Nat} {p1 p2 p3 ms tt ls n:Int}:
  Ct Tryz.prog 159 #[.pointer (GG g),I n] B w0 (⟨87,10,(GG g),1,1,[.pointer (GG gc),I 0,I p1,I p2,I p3,I ms,I tt,I ls, .slice At nt ct, .slice none 0 0],false⟩::R) (fun v R'=>v= .tuple #[.slice none 0 0, .bool true]∧R'=⟨87,10,(GG g),1,1,[.pointer (GG gc),I 0,I p1,I p2,I p3,I ms,I tt,I ls, .slice At nt ct, .slice none 0 0],false⟩::R):=by
 refine fn2 Tryz.func159 Z Z Z ?_
 refine wq<|wg Z<|wg Z<|aA<|aG<|wq<|wm Z<|wy (aF Z)<|wy (aC (off:=1) (m:=1) underlying87 Z gL Z Z Z)<|wy (aC (off:=0) (m:=1) underlying27 Z sz3 Z Z Z)<|wy (aK (rdr 0 Z) underlying3 Z Z Z)<|aA<|aI ?_
 refine wq<|wy (Yl.f (dI Z Z) (by decide))<|wg Z<|aA<|aQ Z<|wq<|wy (Yl.f (dI Z Z) (by decide))<|wg Z<|aA<|aQ Z<|aJ<|wq ?_
 refine wg Z<|wg Z<|aA<|bX (R1:=(⟨87,10,(GG g),1,1,[.pointer (GG gc),I 0,I p1,I p2,I p3,I ms,I tt,I ls, .slice At nt ct, .slice none 0 0],false⟩::R)) (fun _ h=>h) ?_
 refine⟨_,_,Z,Z,?_⟩
 exact⟨Z,Z⟩
theorem aFr {B:Nat} {w0:World} {R:List Row} {g gc:Nat} {At:Option Addr} {nt ct:Nat} {p1 p2 p3 ms tt ls n:Int}:
  Ct Tryz.prog 159 #[.pointer (GG g),I n] B w0 (⟨87,10,(GG g),1,1,[.pointer (GG gc),I 2,I p1,I p2,I p3,I ms,I tt,I ls, .slice At nt ct, .slice none 0 0],false⟩::R) (fun v R'=>v= .tuple #[.slice none 0 0, .bool true]∧R'=⟨87,10,(GG g),1,1,[.pointer (GG gc),I 2,I p1,I p2,I p3,I ms,I tt,I ls, .slice At nt ct, .slice none 0 0],false⟩::R):=by
 refine fn2 Tryz.func159 Z Z Z ?_
 refine wq<|wg Z<|wg Z<|aA<|aG<|wq<|wm Z<|wy (aF Z)<|wy (aC (off:=1) (m:=1) underlying87 Z gL Z Z Z)<|wy (aC (off:=0) (m:=1) underlying27 Z sz3 Z Z Z)<|wy (aK (rdr 0 Z) underlying3 Z Z Z)<|aA<|aI ?_
 refine wq<|wy (Yl.f (dI Z Z) (by decide))<|wg Z<|aA<|aQ Z<|wq<|wy (Yl.f (dI Z Z) (by decide))<|wg Z<|aA<|aQ Z<|aJ<|wq ?_
 refine wg Z<|wg Z<|aA<|bX (R1:=(⟨87,10,(GG g),1,1,[.pointer (GG gc),I 2,I p1,I p2,I p3,I ms,I tt,I ls, .slice At nt ct, .slice none 0 0],false⟩::R)) (fun _ h=>h) ?_
 refine⟨_,_,Z,Z,?_⟩
 exact⟨Z,Z⟩
theorem aFs {B:Nat} {w0:World} {X R0:List Row} {g gc:Nat} {A_u At:Option Addr} {n_u c_u nt ct:Nat} {u:List Int} {p1 p2 p3 ms tt ls n at_:Int} {t:List Int} (h_u:RdC B w0 R0 A_u n_u c_u 1 (ints .u8 u)) (hn_u:n_u=u.length) (hN:u.length≤1000000) (bh_u:aN u) (hat:0≤at_∧at_≤n∧n≤1000000) (hu:u=bQ at_++t):
  Ct Tryz.prog 159 #[.pointer (GG g),I n] B w0 (⟨87,10,(GG g),1,1,[.pointer (GG gc),I 1,I p1,I p2,I p3,I ms,I tt,I ls, .slice At nt ct, .slice none 0 0],false⟩::⟨146,1,(GG gc),1,1,[.slice A_u n_u c_u],false⟩::(X++R0)) (fun v R'=> ∃(A8:Option Addr),∃(A9:Option Addr) (c9:Nat),RdC B w0 R0 A9 (t).length c9 1 (ints .u8 (t))∧v= .tuple #[.slice A8 1 1, .bool true]∧R'=(ri 3 A8 1 1 ([at_]))::⟨87,10,(GG g),1,1,[.pointer (GG gc),I 1,I p1,I p2,I p3,I ms,I tt,I ls, .slice At nt ct, .slice none 0 0],false⟩::⟨146,1,(GG gc),1,1,[.slice A9 ((t).length) c9],false⟩::(X++R0)):=by
 subst hn_u
 refine fn2 Tryz.func159 Z Z Z ?_
 refine wq<|wg Z<|wg Z<|aA<|aG<|wq<|wm Z<|wy (aF Z)<|wy (aC (off:=1) (m:=1) underlying87 Z gL Z Z Z)<|wy (aC (off:=0) (m:=1) underlying27 Z sz3 Z Z Z)<|wy (aK (rdr 0 Z) underlying3 Z Z Z)<|aA<|aI ?_
 refine wq<|wy (Yl.t (dI Z Z) (by decide))<|wg Z<|aA<|dB Z<|wq<|wm Z<|wa (aD PI Z ((pW (X:=([]++X)) (R0:=R0) (at_) (t) h_u Z (by omega) (by assumption) (by omega) hu))) ?_
 rintro _ _ ⟨A_1,c_2,hr_3,rfl,rfl⟩
 refine wm Z<|wX Z Z<|wX Z Z<|wg Z<|wg Z<|aA<|wq<|wm Z<|wa (cB .i64 [at_] underlying52 zs3 Z Z Z) ?_
 rintro _ _ ⟨g_5,rfl,rfl⟩
 refine wm Z<|wm Z<|aB Z Z<|wm Z<|aB Z Z<|wm Z<|aB Z Z<|wy (Yl.t (vL Z Z) (by omega))<|wy (aT Z Z)<|wg Z<|wg Z<|aA<|bX (R1:=((ri 3 (GG g_5) 1 1 ([at_]))::⟨87,10,(GG g),1,1,[.pointer (GG gc),I 1,I p1,I p2,I p3,I ms,I tt,I ls, .slice At nt ct, .slice none 0 0],false⟩::⟨146,1,(GG gc),1,1,[.slice A_1 ((t).length) c_2],false⟩::(X++R0))) (fun _ h=>h) ?_
 refine⟨_,_,Z,Z,?_⟩
 exact⟨_,_,_,hr_3,Z,Z⟩
set_option maxHeartbeats 1000000 in
theorem AC {B:Nat} {w0:World} {X R0:List Row} {g gc:Nat} {A_u At:Option Addr} {n_u c_u nt ct:Nat} {u:List Int} {p0 p1 p2 p3 ms tt ls n x:Int} {l t:List Int} (h_u:RdC B w0 R0 A_u n_u c_u 1 (ints .u8 u)) (hn_u:n_u=u.length) (hN:u.length≤1000000) (bh_u:aN u) (hx:0≤x∧x<4294967296) (hp2:p2=0∨p2=1) (bh_l:aN l) (hl:(l.length:Int)=n∧l.length≤100000) (hu:u=bQ ((dJ l p2).length:Int)++(iE x++(dJ l p2++t))):
  Ct Tryz.prog 160 #[.pointer (GG g),I n] B w0 (⟨87,10,(GG g),1,1,[.pointer (GG gc),I p0,I p1,I p2,I p3,I ms,I tt,I ls, .slice At nt ct, .slice none 0 0],false⟩::⟨146,1,(GG gc),1,1,[.slice A_u n_u c_u],false⟩::(X++R0)) (fun v R'=> ∃(A8:Option Addr) (c8:Nat),∃(A9:Option Addr) (c9:Nat),RdC B w0 R0 A9 (t).length c9 1 (ints .u8 (t))∧v= .tuple #[.int .u32 x, .slice A8 l.length c8, .bool true]∧R'=(ru 5 A8 l.length c8 l)::⟨87,10,(GG g),1,1,[.pointer (GG gc),I p0,I p1,I p2,I p3,I ms,I tt,I ls, .slice At nt ct, .slice none 0 0],false⟩::⟨146,1,(GG gc),1,1,[.slice A9 ((t).length) c9],false⟩::(X++R0)):=by
 subst hn_u
 have hul:=congrArg List.length hu
 simp only[List.length_append] at hul
 have hfl:(iE x).length=4:=rfl
 have hbb:=bh_u
 rw[hu] at hbb
 refine fn3 Tryz.func160 Z Z Z ?_
 refine wq<|wg Z<|wg Z<|wg Z<|aA<|wq<|wm Z<|wa (aD PI Z ((pW (X:=([]++X)) (R0:=R0) (((dJ l p2).length:Int)) (iE x++(dJ l p2++t)) h_u Z (by omega) (by assumption) (by omega) hu))) ?_
 rintro _ _ ⟨A_1,c_2,hr_3,rfl,rfl⟩
 refine wm Z<|wX Z Z<|wX Z Z<|wg Z<|wg Z<|aA<|wq<|wm Z<|wy (aF Z)<|wy (aC (off:=0) (m:=0) underlying87 Z WW Z Z Z)<|wy (aK (rdr 0 Z) underlying84 Z Z Z)<|wa (aD bBp Z (Ct.pick [1,0] 2 (by decide) Z (aNp (X:=([⟨87,10,(GG g),1,1,[.pointer (GG gc),I p0,I p1,I p2,I p3,I ms,I tt,I ls, .slice At nt ct, .slice none 0 0],false⟩]++X)) (R0:=R0) (x:=x) (t:=dJ l p2++t) hr_3 Z (by simp only[List.length_append];omega) hx Z))) ?_
 rintro _ _ ⟨A_4,c_5,hr_6,rfl,rfl⟩
 refine wm Z<|wX Z Z<|wX Z Z<|wg Z<|wg Z<|aA<|wq<|wm Z<|wy (aF Z)<|wy (aC (off:=0) (m:=0) underlying87 Z WW Z Z Z)<|wy (aK (rdr 1 Z) underlying84 Z Z Z)<|wm Z<|wa (aD aDb Z ((aAy (X:=([⟨87,10,(GG g),1,1,[.pointer (GG gc),I p0,I p1,I p2,I p3,I ms,I tt,I ls, .slice At nt ct, .slice none 0 0],false⟩]++X)) (R0:=R0) (dJ l p2) (t) hr_6 Z (by simp only[List.length_append];omega) Z Z))) ?_
 rintro _ _ ⟨A_10,c_11,A_7,c_8,hr_9,rfl,rfl⟩
 refine wm Z<|wX Z Z<|wX Z Z<|wg Z<|wg Z<|aA<|aG<|wq<|wm Z<|wy (dH Z)<|wm Z<|aB Z Z<|wm Z<|aB Z Z ?_
 refine wy (dH Z)<|wy (aP Z Z)<|wm Z<|aB Z Z<|wm Z<|aB Z Z<|wy (dH Z)<|wy (aP Z Z)<|aA<|aQ Z<|aJ<|wq<|wm Z<|wm Z ?_
 refine wy (aF Z)<|wy (aC (off:=1) (m:=1) underlying87 Z gL Z Z Z)<|wy (aC (off:=2) (m:=3) underlying27 Z sz3 Z Z Z)<|wy (aK (rdr 2 Z) underlying3 Z Z Z)<|wm Z<|wa (aD bBo Z (Ct.fresh (fun w hw=>QM ((rdr 0 Z) w hw) Z bh_l hp2 hl.2 (by omega)))) ?_
 rintro _ _ ⟨_,rfl,A_12,c_13,rfl,rfl⟩
 refine wm Z<|wX Z Z<|wX Z Z<|wg Z<|wg Z<|aA<|wq<|wm Z<|wm Z<|wm Z<|wm Z<|aB Z Z<|wm Z<|aB Z Z ?_
 refine wy (aR underlying22 Z)<|aB Z Z<|wm Z<|aB Z Z<|wy (Yl.t (dI Z Z) (by omega))<|wy (aT Z Z)<|wg Z<|wg Z<|wg Z<|aA<|bA [0,3,2] 4 (by decide) Z ?_
 refine⟨_,_,_,Z,Z,Z,?_⟩
 exact⟨_,_,_,_,hr_9,Z,Z⟩
end Go.Proofs.YtdbebmmhdefgdaaGreat

namespace Go.Pure
open Go Go.Eng
section
variable {p:List Int}
def pit (p:List Int):Nat→Int→Int
 |0,i=>i
 |b+1,i=>rd p (pit p b i)
theorem rW (hp:p.Perm (iota p.length)) {i:Int} (i0:0≤i) (hi:i<p.length): ∀b:Nat,0≤pit p b i∧pit p b i<p.length
 |0=>⟨i0,hi⟩
 |b+1=>by
  have ih:=rW hp i0 hi b
  exact aW.1 (hp.subset (bI (L:=p) ih.1 ih.2))
theorem aBy (p:List Int) (a:Nat) (i:Int): ∀b:Nat,pit p (a+b) i=pit p b (pit p a i)
 |0=>rfl
 |b+1=>by rw[←Nat.add_assoc,pit,aBy p a i b,pit]
theorem aVe (hp:p.Perm (iota p.length)) {x y:Int} (x0:0≤x) (hx:x<p.length) (y0:0≤y) (hy:y<p.length) (h:rd p x=rd p y):x=y:=jK (hp.symm.nodup (eT _)) x0 hx y0 hy h
structure Ring (p:List Int) (i:Int) (c:List Int):Prop where
 pos:0<c.length
 at_: ∀b:Nat,b<c.length→rd c b=pit p b i
 close:pit p c.length i=i
 nodup:c.Nodup
 least: ∀x∈c,i≤x
structure ClE (p:List Int) (E:List Bool):Prop where
 len:E.length=p.length
 back: ∀j:Int,0≤j→j<p.length→rdb E (rd p j)=true→rdb E j=true
theorem aQx {l:List Int} {x:Int} {b:Nat} (h:b<(l++[x]).length):rd (l++[x]) b=if b<l.length then rd l b else x:=by
 split
 ·rename_i g;rw[jL (by omega) (by omega)]
 ·rename_i g
  have:b=l.length:=by simp at h;omega
  subst this
  rw[gI (by omega),Int.sub_self]
  rfl
theorem KP (hp:p.Perm (iota p.length)) {E0:List Bool} {i:Int} (hE0:ClE p E0) (i0:0≤i) (hi:i<p.length) (hun:rdb E0 i≠true) (hall: ∀j:Int,0≤j→j<i→rdb E0 j=true):
  ∀(f:Nat) (E:List Bool) (acc:List Int),E.length=p.length→cntF E≤f→(∀b:Nat,b<acc.length→rd acc b=pit p b i)→acc.Nodup→(∀x∈acc,rdb E0 x≠true)→(∀j:Int,0≤j→j<p.length→(rdb E j=true↔rdb E0 j=true∨j∈acc))→
  Ring p i (acc++(fV p f E (pit p acc.length i)).1)∧(∀x∈acc++(fV p f E (pit p acc.length i)).1,rdb E0 x≠true)∧ ∀j:Int,0≤j→j<p.length→(rdb (fV p f E (pit p acc.length i)).2 j=true↔rdb E0 j=true∨j∈acc++(fV p f E (pit p acc.length i)).1)
 | f, E,acc,hl,hf,hat,hnd,hfr,hset=>by
  have hk:=rW hp i0 hi acc.length
  have hmem: ∀b:Nat,b<acc.length→pit p b i∈acc:=fun b hb=>by rw[←hat b hb];exact bI (by omega) (by omega)
  by_cases hseen:rdb E (pit p acc.length i)=true
  ·rw [rP hseen]
   simp only[List.append_nil]
   have hne:0<acc.length:=by
    rcases Nat.eq_zero_or_pos acc.length with z|z
    ·exfalso
     have hz:acc=[]:=List.eq_nil_of_length_eq_zero z
     subst hz
     rcases(hset i i0 hi).1 hseen with a|a
     ·exact hun a
     ·cases a
    ·exact z
   have hclose:pit p acc.length i=i:=by
    have hz:=rW hp i0 hi (acc.length-1)
    have hstep:pit p acc.length i=rd p (pit p (acc.length-1) i):=by
     obtain⟨m,hm⟩: ∃m,acc.length=m+1:=⟨acc.length-1,by omega⟩
     rw[hm,pit];rfl
    rcases(hset _ hk.1 hk.2).1 hseen with a|a
    ·rw [hstep] at a
     exact absurd (hE0.back _ hz.1 hz.2 a) (hfr _ (hmem _ (by omega)))
    ·obtain ⟨b,hb,e⟩:=List.mem_iff_getElem.1 a
     have e2:pit p acc.length i=pit p b i:=by rw[←hat b hb,gU hb];exact e.symm
     rcases Nat.eq_zero_or_pos b with z|z
     ·rw[e2,z];rfl
     ·exfalso
      have hb1:=rW hp i0 hi (b-1)
      have hstep2:pit p b i=rd p (pit p (b-1) i):=by
       obtain⟨m,rfl⟩: ∃m,b=m+1:=⟨b-1,by omega⟩
       rw[pit];rfl
      have:=aVe hp hz.1 hz.2 hb1.1 hb1.2 (by rw[←hstep,←hstep2,e2])
      rw[←hat _ (by omega),←hat _ (by omega)] at this
      have:=jK hnd (by omega) (by omega) (by omega) (by omega) this
      omega
   refine⟨⟨hne,hat,hclose,hnd,fun x hx=> ?_⟩,hfr,hset⟩
   obtain⟨b,hb,rfl⟩:=List.mem_iff_getElem.1 hx
   have hr:=rW hp i0 hi b
   rw[←hat b hb,gU hb] at hr
   rcases Int.lt_or_le acc[b] i with g|g
   ·exact absurd (hall _ hr.1 g) (hfr _ hx)
   ·exact g
  ·have hpos:=IV hk.1 (by omega) hseen
   have hup:=yZ hk.1 (by omega) hseen
   obtain⟨g,rfl⟩: ∃g,f=g+1:=⟨f-1,by omega⟩
   rw[EJ hk.1 (by omega) hf hseen]
   have hno: ¬(rdb E0 (pit p acc.length i)=true∨pit p acc.length i∈acc):=fun h=>hseen ((hset _ hk.1 hk.2).2 h)
   have hlen:(acc++[pit p acc.length i]).length=acc.length+1:=by simp
   have ih:=KP hp hE0 i0 hi hun hall g (oL E (pit p acc.length i) true) (acc++[pit p acc.length i]) (by rw[kH];exact hl) (by omega) (fun b hb=>by
    rw[aQx hb]
    split
    ·rename_i q;exact hat b q
    ·rename_i q;rw[show b=acc.length by rw[hlen] at hb;omega]) (List.nodup_append.2 ⟨hnd,by simp,fun x hx y hy e=>by obtain rfl:=List.mem_singleton.1 hy;subst e;exact hno (.inr hx)⟩) (fun x hx=>by
    rcases List.mem_append.1 hx with h|h
    ·exact hfr x h
    ·obtain rfl:=List.mem_singleton.1 h
     exact fun e=>hno (.inl e)) (fun j j0 hj=>by
    rw[uZ hk.1 (by omega) j0,List.mem_append,List.mem_singleton]
    split
    ·rename_i e;exact⟨fun _=> .inr (.inr e),fun _=>rfl⟩
    ·rename_i e;rw[hset j j0 hj];exact⟨fun h=>h.elim .inl fun h=> .inr (.inl h),fun h=>h.elim .inl fun h=>h.elim .inr fun h=>absurd h e⟩)
   rw[hlen,pit,List.append_assoc] at ih
   exact ih
structure bDh (p:List Int) (i:Nat) (E:List Bool) (ls:List (List Int)):Prop where
 cl:ClE p E
 seen: ∀j:Int,0≤j→j<p.length→(rdb E j=true↔j∈ls.flatten)
 nodup:ls.flatten.Nodup
 ring: ∀c∈ls,∃i0:Int,(0≤i0∧i0<i)∧Ring p i0 c
 heads:ls.Pairwise fun c d=>rd c 0<rd d 0
theorem bCy (hp:p.Perm (iota p.length)): ∀i:Nat,i≤p.length→bDh p i (iI p i).1 (iI p i).2
 |0,_=>⟨⟨by simp[iI],fun j j0 hj h=>by rw[iI,DR] at h;cases h⟩,fun j j0 hj=>by rw[iI,DR];simp,by simp[iI],fun c hc=>(by cases hc), .nil⟩
 | i +1,hi=>by
  have ih:=bCy hp i (by omega)
  have hseen:=BC hp i (by omega)
  have hf:=kU hp i (by omega)
  have hcnt:cntF (iI p i).1≤p.length:=by have:=hf.2.2;omega
  rw[iI]
  by_cases hun:rdb (iI p i).1 i=true
  ·rw [rP hun]
   simp only[if_true]
   exact⟨ih.cl,ih.seen,ih.nodup,fun c hc=>by obtain⟨i0,h,r⟩:=ih.ring c hc;exact⟨i0,by omega,r⟩,ih.heads⟩
  ·obtain ⟨w1,w2,w3⟩:=KP hp ih.cl (i:=i) (by omega) (by omega) hun (fun j j0 hj=>by have:=hseen j.toNat (by omega);rwa[show((j.toNat:Nat):Int)=j by omega] at this) p.length (iI p i).1 [] hf.1 hcnt (fun b hb=>by simp at hb) .nil (fun x hx=>by cases hx) (fun j j0 hj=>by simp)
   simp only[List.nil_append,List.length_nil,pit] at w1 w2 w3
   have hwl:=(pU hp p.length (iI p i).1 i hf.1 (by omega) (by omega))
   generalize fV p p.length (iI p i).1 i=r at w1 w2 w3 hwl
   obtain⟨c,E'⟩:=r
   simp only at w1 w2 w3 hwl ⊢
   rw[if_neg (fun e=>by have:=w1.pos;rw[e] at this;simp at this)]
   have h0:rd c 0=i:=w1.at_ 0 w1.pos
   refine⟨⟨hwl.1,fun j j0 hj h=> ?_⟩,fun j j0 hj=> ?_,?_,fun d hd=> ?_,?_⟩
   ·have hj':=aW.1 (hp.subset (bI (L:=p) j0 hj))
    rcases(w3 _ hj'.1 hj'.2).1 h with a|a
    ·exact(w3 j j0 hj).2 (.inl (ih.cl.back j j0 hj a))
    ·refine (w3 j j0 hj).2 (.inr ?_)
     obtain⟨b,hb,e⟩:=List.mem_iff_getElem.1 a
     have e2:rd p j=pit p b i:=by rw[←w1.at_ b hb,gU hb];exact e.symm
     have key: ∀m:Nat,m<c.length→rd p j=rd p (pit p m i)→j∈c:=fun m hm e=>by
      have hm':=rW hp (i:=i) (by omega) (by omega) m
      have:=aVe hp j0 hj hm'.1 hm'.2 e
      rw[this,←w1.at_ m hm]
      exact bI (by omega) (by omega)
     rcases Nat.eq_zero_or_pos b with z|z
     ·refine key (c.length-1) (by have:=w1.pos;omega) ?_
      have hc:=w1.close
      obtain⟨m,hm⟩: ∃m,c.length=m+1:=⟨c.length-1,by have:=w1.pos;omega⟩
      rw[hm,pit] at hc
      rw[e2,z,hm]
      exact hc.symm
     ·obtain ⟨m,rfl⟩: ∃m,b=m+1:=⟨b-1,by omega⟩
      exact key m (by omega) (by rw[e2,pit])
   ·rw [w3 j j0 hj,List.flatten_append,List.mem_append,ih.seen j j0 hj]
    simp
   ·rw [List.flatten_append]
    refine List.nodup_append.2 ⟨ih.nodup,by simpa using w1.nodup,fun x hx y hy e=> ?_⟩
    subst e
    have hy:x∈c:=by simpa using hy
    have hx':=hwl.2.1 x hy
    exact w2 x hy ((ih.seen x hx'.1 hx'.2).2 hx)
   ·rcases List.mem_append.1 hd with h|h
    ·obtain ⟨i0,h,r⟩:=ih.ring d h
     exact⟨i0,by omega,r⟩
    ·obtain rfl:=List.mem_singleton.1 h
     exact⟨i,by omega,w1⟩
   ·refine List.pairwise_append.2 ⟨ih.heads,List.pairwise_singleton _ _,fun d hd e he=> ?_⟩
    obtain rfl:=List.mem_singleton.1 he
    obtain⟨i0,h,r⟩:=ih.ring d hd
    rw[h0,show rd d 0=i0 from r.at_ 0 r.pos]
    omega
theorem YZ (hp:p.Perm (iota p.length)):bDh p p.length (iI p p.length).1 (fE p):=bCy hp p.length (Nat.le_refl _)
theorem BB (hp:p.Perm (iota p.length)):(fE p).flatten.Perm (iota p.length):=oV (YZ hp).nodup (fun x hx=>by
 obtain⟨c,hc,hx⟩:=List.mem_flatten.1 hx
 exact aW.2 (aDc hp c hc x hx)) (by rw[bE,UO hp];exact Nat.le_refl _)
end
end Go.Pure
namespace Go.Pure
open Go Go.Eng
section
variable {l:List Int}
def phi (l:List Int) (q:Int):Int:=rd (bW (iota l.length) l 256) q
theorem FX (hl:aN l) {q:Int} (q0:0≤q) (hq:q<l.length):0≤phi l q∧phi l q<l.length:=by
 have h:=jN (l:=l) hl
 have hlen:=h.1.length_eq
 rw[bE] at hlen
 exact aW.1 (h.1.subset (bI q0 (by omega)))
theorem aXh (hl:aN l) {i:Int} (i0:0≤i) (hi:i<l.length):phi l (lfC l i)=i:=by
 obtain⟨q,q0,q1,e,f⟩:=TE (l:=l) hl i0 hi
 rw[f];exact e
theorem XW (hl:aN l) {i k:Int} (i0:0≤i) (h:i<k) (hk:k<l.length):tl l (phi l i) (phi l k):=by
 have hlen:=(jN (l:=l) hl).1.length_eq
 rw[bE] at hlen
 exact dY (jN (l:=l) hl).2 i0 h (by omega)
def uw (l:List Int):Nat→Int→Int
 |0,i=>rd l (phi l i)
 |d+1,i=>uw l d (phi l i)
def U (l:List Int) (i:Int) (d:Nat):Int:=uw l d i
theorem uN (i:Int):U l i 0=rd l (phi l i):=by unfold U;rw[uw]
theorem wR (i:Int) (d:Nat):U l i (d+1)=U l (phi l i) d:=by unfold U;rw[uw]
theorem aQd (hl:aN l): ∀(d:Nat) (i k:Int),0≤i→i<k→k<l.length→(∀e,e<d→U l i e=U l k e)→U l i d≤U l k d
 |0,i,k,i0,h,hk,_=>by
  have:=XW hl i0 h hk
  rw[uN,uN]
  unfold tl at this
  omega
 |d+1,i,k,i0,h,hk,he=>by
  have h0:=he 0 (by omega)
  rw[uN,uN] at h0
  have ht:=XW hl i0 h hk
  unfold tl at ht
  have hi':=FX hl (q:=i) i0 (by omega)
  have hk':=FX hl (q:=k) (by omega) hk
  rw[wR,wR]
  refine aQd hl d _ _ hi'.1 (by omega) hk'.2 fun e he'=> ?_
  have:=he (e+1) (by omega)
  rwa[wR,wR] at this
theorem aQe (hl:aN l) {i k:Int} (i0:0≤i) (h:i≤k) (hk:k<l.length): ¬Lt (U l k) (U l i):=by
 rintro⟨d,h1,h2⟩
 rcases Int.lt_or_le i k with a|a
 ·have:=aQd hl d i k i0 a hk fun e he=>(h1 e he).symm
  omega
 ·obtain rfl:i=k:=by omega
  omega
theorem phi_mono (hl:aN l) {i k:Int} (i0:0≤i) (h:i<k) (hk:k<l.length) (he: ∀d,U l i d=U l k d):phi l i<phi l k∧ ∀d,U l (phi l i) d=U l (phi l k) d:=by
 have ht:=XW hl i0 h hk
 have h0:=he 0
 rw[uN,uN] at h0
 unfold tl at ht
 refine⟨by omega,fun d=> ?_⟩
 have:=he (d+1)
 rwa[wR,wR] at this
def iN (l:List Int):Nat→Int→Int
 |0,i=>i
 |b+1,i=>iN l b (phi l i)
theorem rX (hl:aN l): ∀(b:Nat) {i:Int},0≤i→i<l.length→0≤iN l b i∧iN l b i<l.length
 |0,i,i0,hi=>⟨i0,hi⟩
 |b+1,i,i0,hi=>by
  have h:=FX hl i0 hi
  exact rX hl b h.1 h.2
theorem AA (hl:aN l): ∀(b:Nat) {i k:Int},0≤i→i<k→k<l.length→(∀d,U l i d=U l k d)→iN l b i<iN l b k∧ ∀d,U l (iN l b i) d=U l (iN l b k) d
 |0,i,k,_,h,_,he=>⟨h,he⟩
 |b+1,i,k,i0,h,hk,he=>by
  have h1:=phi_mono hl i0 h hk he
  have hi':=FX hl (q:=i) i0 (by omega)
  have hk':=FX hl (q:=k) (by omega) hk
  exact AA hl b hi'.1 h1.1 hk'.2 h1.2
theorem uO (i:Int): ∀(b d:Nat),U l (iN l b i) d=U l i (b+d)
 |0,d=>by rw[Nat.zero_add];rfl
 |b+1,d=>by
  rw[iN,uO (phi l i) b d,←wR,show b+d+1=b+1+d by omega]
theorem mY (i:Int): ∀(a b:Nat),iN l (a+b) i=iN l b (iN l a i)
 |0,b=>by rw[Nat.zero_add];rfl
 |a+1,b=>by rw[show a+1+b=(a+b)+1 by omega,iN,mY (phi l i) a b];rfl
theorem aCk (hl:aN l) {i:Int} (i0:0≤i) (hi:i<l.length) {b:Nat} (h:i<iN l b i) (he: ∀d,U l i d=U l (iN l b i) d): ∀t:Nat,i+t≤iN l (t*b) i
 |0=>by rw[Nat.zero_mul];show i+0≤i;omega
 |t+1=>by
  have ih:=aCk hl i0 hi h he t
  have hk:=rX hl b i0 hi
  have h1:=(AA hl (t*b) i0 h hk.2 he).1
  rw[←mY i b (t*b),show b+t*b=(t+1)*b by rw[Nat.succ_mul];omega] at h1
  omega
theorem aCl (hl:aN l) {i:Int} (i0:0≤i) (hi:i<l.length) {b:Nat} (h:iN l b i<i) (he: ∀d,U l i d=U l (iN l b i) d): ∀t:Nat,iN l (t*b) i+t≤i
 |0=>by rw[Nat.zero_mul];show i+0≤i;omega
 |t+1=>by
  have ih:=aCl hl i0 hi h he t
  have hk:=rX hl b i0 hi
  have h1:=(AA hl (t*b) hk.1 h hi fun d=>(he d).symm).1
  rw[←mY i b (t*b),show b+t*b=(t+1)*b by rw[Nat.succ_mul];omega] at h1
  omega
theorem aKe (hl:aN l) {i:Int} (i0:0≤i) (hi:i<l.length) {b:Nat} (hne:iN l b i≠i): ¬ ∀d,U l i d=U l (iN l b i) d:=fun he=>by
 rcases Int.lt_or_le i (iN l b i) with h|h
 ·have:=aCk hl i0 hi h he (l.length+1)
  have:=rX hl ((l.length+1)*b) i0 hi
  omega
 ·have:=aCl hl i0 hi (by omega) he (l.length+1)
  have:=rX hl ((l.length+1)*b) i0 hi
  omega
theorem aTj (hl:aN l):(((iota l.length).map (lfC l))).Perm (iota ((iota l.length).map (lfC l)).length):=by
 rw[List.length_map,bE]
 exact zH (fun x h0 h1=>TF (l:=l) hl h0 h1) fun x y x0 x1 y0 y1 e=>aMr (l:=l) hl x0 x1 y0 y1 e
def lfL (l:List Int):List Int:=(iota l.length).map (lfC l)
theorem mU (l:List Int):(lfL l).length=l.length:=by unfold lfL;rw[List.length_map,bE]
theorem aXc {i:Int} (i0:0≤i) (hi:i<l.length):rd (lfL l) i=lfC l i:=by
 unfold lfL
 rw[tT i0 (by rw[bE];exact hi),vB i0 hi]
theorem lN (hl:aN l):(lfL l).Perm (iota (lfL l).length):=aTj hl
theorem SF (hl:aN l) {i:Int} (i0:0≤i) (hi:i<l.length): ∀b:Nat,iN l b (pit (lfL l) b i)=i
 |0=>rfl
 |b+1=>by
  have h:=rW (lN hl) i0 (by rw[mU];exact hi) b
  rw[mU] at h
  rw[iN,pit,aXc h.1 h.2,aXh hl h.1 h.2]
  exact SF hl i0 hi b
section
variable {i:Int} {c:List Int} (hl:aN l) (i0:0≤i) (hi:i<l.length) (hc:Ring (lfL l) i c)
include hl i0 hi hc
theorem uY {b:Nat} (hb:b≤c.length):iN l b i=pit (lfL l) (c.length-b) i:=by
 have h:=SF hl (rW (lN hl) i0 (by rw[mU];exact hi) (c.length-b)).1 (by have:=(rW (lN hl) i0 (by rw[mU];exact hi) (c.length-b)).2;rw[mU] at this;exact this) b
 rw[←aBy,show c.length-b+b=c.length by omega,hc.close] at h
 exact h
theorem FE:iN l c.length i=i:=by
 rw[uY hl i0 hi hc (Nat.le_refl _),Nat.sub_self];rfl
theorem RS:Per (U l i) c.length:=fun d=>by
 rw[Nat.add_comm,←uO,FE hl i0 hi hc]
theorem QG {d:Nat} (hd:d<c.length):rd (kC l c) d=U l i d:=by
 have h1:rd (kC l c) d=rd l (rd c ((c.length-1-d:Nat):Int)):=by
  unfold kC
  rw[tT (by omega) (by rw[List.length_reverse];omega)]
  congr 1
  rw[gU (by rw[List.length_reverse];exact hd),List.getElem_reverse,gU (by omega)]
 have h2:U l i d=rd l (iN l (d+1) i):=by
  have:=uO (l:=l) i d 0
  rw[Nat.add_zero,uN] at this
  rw[←this,mY i d 1];rfl
 rw[h1,h2,hc.at_ _ (by omega),uY hl i0 hi hc (by omega),show c.length-(d+1)=c.length-1-d by omega]
theorem EG:om (kC l c)=U l i:=by
 funext d
 have hp:=hc.pos
 have h1:om (kC l c) d=rd (kC l c) ((d%c.length:Nat):Int):=by
  unfold om rd
  rw[lW,Int.toNat_natCast]
 rw[h1,QG hl i0 hi hc (Nat.mod_lt _ hp)]
 exact(RS hl i0 hi hc).mod d
theorem FH {r:Nat} (r0:0<r) (hr:r<c.length):i<iN l r i:=by
 rw[uY hl i0 hi hc (by omega)]
 have h1:=hc.least _ (bI (L:=c) (k:=((c.length-r:Nat):Int)) (by omega) (by omega))
 rw[hc.at_ _ (by omega)] at h1
 rcases Int.lt_or_le i (pit (lfL l) (c.length-r) i) with g|g
 ·exact g
 ·exfalso
  have e:rd c ((c.length-r:Nat):Int)=rd c ((0:Nat):Int):=by
   rw[hc.at_ _ (by omega),hc.at_ 0 hc.pos]
   show _=i
   omega
  have:=jK hc.nodup (by omega) (by omega) (by omega) (by have:=hc.pos;omega) e
  omega
theorem aKs:uS (kC l c)=true:=by
 rw[uR,lW]
 refine⟨hc.pos,fun r r0 hr=> ?_⟩
 have hot:=FH hl i0 hi hc r0 hr
 have hin:=rX hl r i0 hi
 have hnl:=aQe hl i0 (Int.le_of_lt hot) hin.2
 have hne:=aKe hl i0 hi (b:=r) (by omega)
 have hlt:Lt (U l i) (U l (iN l r i)):=by
  rcases GY (U l i) (U l (iN l r i)) with a|a|a
  ·exact a
  ·exact absurd a hne
  ·exact absurd a hnl
 obtain⟨d,h1,h2⟩:=hlt
 have hsh: ∀e,U l (iN l r i) e=U l i (r+e):=fun e=>uO i r e
 rw[hsh] at h2
 have hdm:d<c.length-r:=by
  rcases Nat.lt_or_ge d (c.length-r) with g|g
  ·exact g
  ·exfalso
   have hper:=RS hl i0 hi hc
   have hot2:=FH hl i0 hi hc (r:=c.length-r) (by omega) (by omega)
   have hin2:=rX hl (c.length-r) i0 hi
   refine aQe hl i0 (Int.le_of_lt hot2) hin2.2 ⟨d-(c.length-r),fun e he=> ?_,?_⟩
   ·rw [uO]
    have:=h1 (c.length-r+e) (by omega)
    rw[this,hsh,show r+(c.length-r+e)=e+c.length by omega,hper]
   ·rw [uO,show c.length-r+(d-(c.length-r))=d by omega]
    rw[show r+d=(d-(c.length-r))+c.length by omega,hper] at h2
    exact h2
 rw[nT _ _ (by rw[List.length_drop,lW];omega),List.length_drop,lW]
 have hlt: ∀e,e<c.length→lt (kC l c) e=U l i e:=fun e he=>by
  rw[←QG hl i0 hi hc he]
  unfold lt rd
  rw[Int.toNat_natCast]
 refine⟨d,hdm,fun e he=> ?_,?_⟩
 ·rw[iD,hlt e (by omega),hlt (r+e) (by omega),h1 e he,hsh]
 ·rw [iD,hlt d (by omega),hlt (r+d) (by omega)]
  exact h2
end
end
end Go.Pure
namespace Go.Pure
open Go Go.Eng
theorem GK {w:List Int} {e:Nat} (h:e<w.length):om w e=lt w e:=BU h
theorem aDu {v:List Int} (h:uS v=true) {r:Nat} (r0:0<r) (hr:r<v.length): ∃d,d<v.length-r∧(∀e,e<d→lt v e=lt v (r+e))∧lt v d<lt v (r+d):=by
 have:=((uR v).1 h).2 r r0 hr
 rw[nT _ _ (by rw[List.length_drop];omega),List.length_drop] at this
 obtain⟨d,h1,h2,h3⟩:=this
 refine⟨d,h1,fun e he=> ?_,?_⟩
 ·rw[h2 e he,iD]
 ·rwa[iD] at h3
theorem longer {w v:List Int} (hw:0<w.length) (hv:uS v=true) (hlen:w.length<v.length) (hpre: ∀e,e<w.length→lt v e=lt w e):Lt (om w) (om v):=by
 obtain⟨d,h1,h2,h3⟩:=aDu hv hw hlen
 have hper:=tX w
 have agr: ∀e,e<w.length+d→lt v e=om w e:=by
  intro e
  induction e using Nat.strongRecOn with
  | ind e ih=>
   intro he
   rcases Nat.lt_or_ge e w.length with g|g
   ·rw[hpre e g,GK g]
   ·have e1:=h2 (e-w.length) (by omega)
    rw[show w.length+(e-w.length)=e by omega] at e1
    have e2:=hper (e-w.length)
    rw[show e-w.length+w.length=e by omega] at e2
    rw[←e1,e2]
    exact ih (e-w.length) (by omega) (by omega)
 refine⟨w.length+d,fun f hf=> ?_,?_⟩
 ·rw[GK (w:=v) (by omega),agr f hf]
 ·rw [GK (w:=v) (by omega)]
  have e1:=hper d
  rw[Nat.add_comm d w.length] at e1
  rw[e1,←agr d (by omega)]
  exact h3
theorem aCo: ∀(ws:List (List Int)) (m:Nat),0<m→m≤ws.flatten.length→ ∃v∈ws,∃r,r<m∧m≤r+v.length∧ ∀e,e<v.length→lt ws.flatten (r+e)=lt v e
 |[],m,h0,h=>by simp at h;omega
 | w::ws,m,h0,h=>by
  rw[List.flatten_cons,List.length_append] at h
  rcases Nat.lt_or_ge w.length m with g|g
  ·obtain ⟨v,hv,r,h1,h2,h3⟩:=aCo ws (m-w.length) (by omega) (by omega)
   refine⟨v,List.mem_cons_of_mem _ hv,w.length+r,by omega,by omega,fun e he=> ?_⟩
   rw[List.flatten_cons,←h3 e he]
   unfold lt
   rw[List.getD_eq_getElem?_getD,List.getD_eq_getElem?_getD,List.getElem?_append_right (by omega),show w.length+r+e-w.length=r+e by omega]
  ·refine ⟨w,by simp,0,h0,by omega,fun e he=> ?_⟩
   rw[List.flatten_cons,Nat.zero_add]
   unfold lt
   rw[List.getD_eq_getElem?_getD,List.getD_eq_getElem?_getD,List.getElem?_append_left he]
theorem aGs {w:List Int} {ws:List (List Int)} (hw:uS w=true) (hws: ∀v∈ws,uS v=true) (hle: ∀v∈ws,¬Lt (om w) (om v)):lM (w++ws.flatten) (w++ws.flatten).length=w.length:=by
 have hpos:=((uR w).1 hw).1
 refine AU (by rw[List.take_left'];exact hw;rfl) _ (by simp) fun m h1 h2=> ?_
 cases hb:uS ((w++ws.flatten).take m) with
 |false=>rfl
 | true=>
  exfalso
  rw[List.length_append] at h2
  obtain⟨v,hv,r,r1,r2,r3⟩:=aCo ws (m-w.length) (by omega) (by omega)
  have hml:((w++ws.flatten).take m).length=m:=by rw[List.length_take,List.length_append];omega
  obtain⟨d,d1,d2,d3⟩:=aDu hb (r:=w.length+r) (by omega) (by omega)
  rw[hml] at d1
  have hs: ∀e,e<m→lt ((w++ws.flatten).take m) e=lt (w++ws.flatten) e:=fun e he=>lt_take he
  have hsw: ∀e,e<w.length→lt (w++ws.flatten) e=lt w e:=fun e he=>by
   unfold lt
   rw[List.getD_eq_getElem?_getD,List.getD_eq_getElem?_getD,List.getElem?_append_left he]
  have hsv: ∀e,e<v.length→lt (w++ws.flatten) (w.length+r+e)=lt v e:=fun e he=>by
   rw[←r3 e he]
   unfold lt
   rw[List.getD_eq_getElem?_getD,List.getD_eq_getElem?_getD,List.getElem?_append_right (by omega),show w.length+r+e-w.length=r+e by omega]
  have hlv:=hws v hv
  have q2: ∀e,e<d→lt (w++ws.flatten) e=lt v e:=fun e he=>by
   have:=d2 e he
   rwa[hs _ (by omega),hs _ (by omega),hsv e (by omega)] at this
  have q3:lt (w++ws.flatten) d<lt v d:=by rwa[hs _ (by omega),hs _ (by omega),hsv d (by omega)] at d3
  rcases Nat.lt_or_ge d w.length with g|g
  ·refine hle v hv ⟨d,fun e he=> ?_,?_⟩
   ·rw[GK (w:=w) (by omega),GK (w:=v) (by omega),←q2 e he,hsw e (by omega)]
   ·rw [GK (w:=w) g,GK (w:=v) (by omega),←hsw d g]
    exact q3
  ·exact hle v hv (longer hpos hlv (by omega) fun e he=>by rw[←q2 e (by omega),hsw e he])
theorem aCs: ∀ {ws:List (List Int)},(∀v∈ws,uS v=true)→ws.Pairwise (fun a b=> ¬Lt (om a) (om b))→fD ws.flatten=ws.map fun w=>(w.length:Int)
 |[],_,_=>UA rfl
 |w::ws,hl,hp=>by
  obtain⟨h1,h2⟩:=List.pairwise_cons.1 hp
  have hw:=hl w (by simp)
  have hpos:=((uR w).1 hw).1
  have hf:=aGs hw (fun v hv=>hl v (List.mem_cons_of_mem _ hv)) h1
  rw[List.flatten_cons,MU (by rw[List.length_append];omega),hf,List.drop_left',List.map_cons,aCs (fun v hv=>hl v (List.mem_cons_of_mem _ hv)) h2]
  rfl
theorem XT (ws:List (List Int)) (k:Nat):ps (ws.map fun w=>(w.length:Int)) k=((ws.take k).flatten.length:Int):=by
 unfold ps
 rw[Int.toNat_natCast,←List.map_take]
 induction ws.take k with
 |nil=>rfl
 |cons w l ih=>rw[List.map_cons,List.sum_cons,ih,List.flatten_cons,List.length_append];omega
theorem aHk (ws:List (List Int)):gK ws.flatten (ws.map fun w=>(w.length:Int)) ws.length=ws:=by
 refine List.ext_getElem (by rw[rO];omega) fun k h1 h2=> ?_
 simp only[gK,List.getElem_map,List.getElem_range]
 rw[XT,Int.toNat_natCast,gU (by rw[List.length_map];exact h2),List.getElem_map,Int.toNat_natCast]
 have e:ws.flatten=(ws.take k).flatten++(ws[k]++(ws.drop (k+1)).flatten):=by
  conv=>lhs;rw[←List.take_append_drop k ws,List.drop_eq_getElem_cons h2]
  rw[List.flatten_append,List.flatten_cons]
 rw[e,List.drop_left' rfl,List.take_left' rfl]
theorem aHv {ws:List (List Int)} (hl: ∀v∈ws,uS v=true) (hp:ws.Pairwise (fun a b=> ¬Lt (om a) (om b))):bws ws.flatten=ws:=by
 unfold bws
 rw[aCs hl hp,List.length_map]
 exact aHk ws
end Go.Pure
namespace Go.Pure
open Go Go.Eng
section
variable {l:List Int}
def iM (l:List Int):List (List Int):=((fE (lfL l)).reverse).map (kC l)
theorem aAd (l:List Int):backL l (fE (lfL l))=(iM l).flatten:=rfl
theorem xU (hl:aN l) {c:List Int} (hc:c∈fE (lfL l)): ∃i:Int,(0≤i∧i<l.length)∧Ring (lfL l) i c∧rd c 0=i:=by
 obtain⟨i,h,r⟩:=(YZ (lN hl)).ring c hc
 rw[mU] at h
 exact⟨i,h,r,r.at_ 0 r.pos⟩
theorem aEz (hl:aN l): ∀v∈iM l,uS v=true:=fun v hv=>by
 obtain⟨c,hc,rfl⟩:=List.mem_map.1 hv
 obtain⟨i,h,r,_⟩:=xU hl (List.mem_reverse.1 hc)
 exact aKs hl h.1 h.2 r
theorem XJ (hl:aN l):(iM l).Pairwise (fun a b=> ¬Lt (om a) (om b)):=by
 unfold iM
 rw[List.map_reverse]
 refine List.pairwise_reverse.2 (List.pairwise_map.2 ?_)
 refine List.Pairwise.imp_of_mem (fun {c d} hc hd h=> ?_) (YZ (lN hl)).heads
 obtain⟨i,hi,r,e⟩:=xU hl hc
 obtain⟨k,hk,q,f⟩:=xU hl hd
 rw[EG hl hi.1 hi.2 r,EG hl hk.1 hk.2 q]
 exact aQe hl hi.1 (by omega) hk.2
theorem JD (hl:aN l):bws (backL l (fE (lfL l)))=iM l:=by
 rw[aAd]
 exact aHv (aEz hl) (XJ hl)
theorem aZu {ws:List (List Int)} {w:Int} {j:Nat}:tw ws (w,(j:Int))=fun d=>om (rdl ws w) (j+d):=by
 funext d
 unfold tw om
 simp only[Int.toNat_natCast]
theorem LU (hl:aN l) {i:Int} {c:List Int} (i0:0≤i) (hi:i<l.length) (hc:Ring (lfL l) i c):((List.range c.length).map fun j=>iN l j i).Perm c:=by
 have hpos:=hc.pos
 have hback: ∀j,j<c.length→iN l j i=rd c (((c.length-j)%c.length:Nat):Int):=fun j hj=>by
  rw[uY hl i0 hi hc (by omega)]
  rcases Nat.eq_zero_or_pos j with z|z
  ·subst z
   rw[Nat.sub_zero,hc.close,Nat.mod_self,hc.at_ 0 hpos]
   rfl
  ·rw[Nat.mod_eq_of_lt (by omega),hc.at_ _ (by omega)]
 refine oV ?_ (fun x hx=> ?_) (by simp)
 ·refine List.pairwise_map.2 (List.Pairwise.imp_of_mem (fun {a b} ha hb hab e=> ?_) List.nodup_range)
  have ha:=List.mem_range.1 ha
  have hb:=List.mem_range.1 hb
  rw[hback a ha,hback b hb] at e
  have h1:=Nat.mod_lt (c.length-a) hpos
  have h2:=Nat.mod_lt (c.length-b) hpos
  have:=jK hc.nodup (by omega) (by omega) (by omega) (by omega) e
  have e3:(c.length-a)%c.length=(c.length-b)%c.length:=by omega
  refine hab ?_
  rcases Nat.eq_zero_or_pos a with z|z
  ·rcases Nat.eq_zero_or_pos b with y|y
   ·omega
   ·rw[z,Nat.sub_zero,Nat.mod_self,Nat.mod_eq_of_lt (by omega)] at e3;omega
  ·rcases Nat.eq_zero_or_pos b with y|y
   ·rw[y,Nat.sub_zero,Nat.mod_self,Nat.mod_eq_of_lt (by omega)] at e3;omega
   ·rw[Nat.mod_eq_of_lt (by omega),Nat.mod_eq_of_lt (by omega)] at e3;omega
 ·obtain ⟨j,hj,rfl⟩:=List.mem_map.1 hx
  have hj:=List.mem_range.1 hj
  have h1:=Nat.mod_lt (c.length-j) hpos
  rw[hback j hj]
  exact bI (by omega) (by omega)
theorem vX (hl:aN l): ∀k:Nat,k≤(fE (lfL l)).length→((jD (iM l) k).map (tw (iM l))).Perm (((((fE (lfL l)).reverse).take k).flatten).map (U l))
 |0,_=> .refl _
 | k+1,hk=>by
  have ih:=vX hl k (by omega)
  have hlt:k<(fE (lfL l)).reverse.length:=by rw[List.length_reverse];omega
  rw[jD,List.map_append,List.take_add_one,List.getElem?_eq_getElem hlt,List.flatten_append,List.map_append]
  refine ih.append ?_
  simp only[Option.toList_some,List.flatten_cons,List.flatten_nil,List.append_nil]
  have hmem:(fE (lfL l)).reverse[k]∈fE (lfL l):=List.mem_reverse.1 (List.getElem_mem hlt)
  have hrw:rdl (iM l) (k:Int)=kC l (fE (lfL l)).reverse[k]:=by
   unfold rdl iM
   rw[Int.toNat_natCast,List.getD_eq_getElem?_getD,List.getElem?_map,List.getElem?_eq_getElem hlt]
   rfl
  generalize (fE (lfL l)).reverse[k]=c at hmem hrw
  obtain⟨i,hi,r,_⟩:=xU hl hmem
  have h1:=(LU hl hi.1 hi.2 r).map (U l)
  refine List.Perm.trans (.of_eq ?_) h1
  rw[hrw,lW]
  unfold turnsOf
  rw[List.map_map,List.map_map]
  refine List.map_congr_left fun j _=> ?_
  show tw (iM l) ((k:Int),(j:Int))=U l (iN l j i)
  rw[aZu,hrw,EG hl hi.1 hi.2 r]
  funext d
  rw[uO]
theorem zU (hl:aN l) {q:Int} (q0:0≤q) (hq:q<l.length): ∃m:Nat,0<m∧iN l m q=q:=by
 have hp:=BB (lN hl)
 obtain⟨c,hc,hqc⟩:=List.mem_flatten.1 (hp.symm.subset (aW.2 ⟨q0,by rw[mU];exact hq⟩))
 obtain⟨i,hi,r,_⟩:=xU hl hc
 obtain⟨j,hj,e⟩:=List.mem_map.1 ((LU hl hi.1 hi.2 r).symm.subset hqc)
 refine⟨c.length,r.pos,?_⟩
 rw[←e,←mY,Nat.add_comm,mY,FE hl hi.1 hi.2 r]
theorem SG {q:Int} {m:Nat} (h:iN l m q=q): ∀t:Nat,iN l (t*m) q=q
 |0=>by rw[Nat.zero_mul];rfl
 |t+1=>by rw[Nat.succ_mul,mY,SG h t,h]
theorem aAi {q:Int} {m t:Nat} (hm:iN l m q=q) (m0:0<m) (t0:0<t):U l q (m*t-1)=rd l q:=by
 have h:=SG hm t
 rw[Nat.mul_comm] at h
 have hpos:0<m*t:=Nat.mul_pos m0 t0
 have h2:=uO (l:=l) q (m*t-1) 0
 rw[Nat.add_zero,uN] at h2
 rw[←h2]
 have h3:=mY (l:=l) q (m*t-1) 1
 rw[show m*t-1+1=m*t by omega,h] at h3
 rw[show phi l (iN l (m*t-1) q)=iN l 1 (iN l (m*t-1) q) from rfl,←h3]
theorem aEb (hl:aN l) {T:List (Int × Int)} (hp:T.Perm (jD (bws (backL l (fE (lfL l)))) (bws (backL l (fE (lfL l)))).length)) (ho:T.Pairwise (qV (bws (backL l (fE (lfL l)))))):T.map (lastB (bws (backL l (fE (lfL l)))))=l:=by
 rw[JD hl] at hp ho ⊢
 have hlen:(iM l).length=(fE (lfL l)).length:=by unfold iM;rw[List.length_map,List.length_reverse]
 have h1:(T.map (tw (iM l))).Perm ((iota l.length).map (U l)):=by
  refine(hp.map _).trans ?_
  rw[hlen]
  refine(vX hl _ (Nat.le_refl _)).trans ?_
  rw[List.take_of_length_le (by rw[List.length_reverse];exact Nat.le_refl _)]
  have hc:=BB (lN hl)
  rw[mU] at hc
  exact(((List.reverse_perm _).flatten).trans hc).map _
 have s1:(T.map (tw (iM l))).Pairwise fun a b=> ¬Lt b a:=List.pairwise_map.2 (ho.imp fun {t u} h hlt=>by
  rcases h with h|h
  ·exact h.asymm hlt
  ·exact hlt.not_eq fun i=>(h.1 i).symm)
 have s2:((iota l.length).map (U l)).Pairwise fun a b=> ¬Lt b a:=List.pairwise_map.2 (List.Pairwise.imp_of_mem (fun {i k} hi hk h=>by
  have hi:=aW.1 hi
  have hk:=aW.1 hk
  exact aQe hl hi.1 (Int.le_of_lt h) hk.2) (yN l.length))
 have same:T.map (tw (iM l))=(iota l.length).map (U l):=h1.eq_of_pairwise (fun a b _ _ x y=>by
  rcases GY a b with z|z|z
  ·exact absurd z y
  ·exact funext z
  ·exact absurd z x) s1 s2
 have hTl:T.length=l.length:=by
  have:=congrArg List.length same
  rwa[List.length_map,List.length_map,bE] at this
 refine bH (by rw[List.length_map];exact hTl) fun q q0 q1=> ?_
 rw[List.length_map] at q1
 rw[aRt q0 q1]
 have hv:=yJ.1 (hp.subset (lH (l:=T) q0 q1))
 have hU:tw (iM l) (rdp T q)=U l q:=by
  have e1:(T.map (tw (iM l)))[q.toNat]? =some (tw (iM l) (rdp T q)):=by
   rw[List.getElem?_map,List.getElem?_eq_getElem (by omega)]
   unfold rdp
   rw[List.getD_eq_getElem?_getD,List.getElem?_eq_getElem (by omega)]
   rfl
  have e2:((iota l.length).map (U l))[q.toNat]? =some (U l q):=by
   rw[List.getElem?_map,List.getElem?_eq_getElem (by rw[bE];omega)]
   have:=vB (n:=l.length) q0 (by omega)
   rw[eQ q0 (by rw[bE];omega)] at this
   rw[this]
   rfl
  rw[same,e2] at e1
  exact(Option.some.inj e1).symm
 obtain⟨m,m0,hm⟩:=zU hl q0 (by omega:q<l.length)
 obtain⟨a1,a2,a3,a4⟩:=hv
 have hw0:0<(rdl (iM l) (rdp T q).1).length:=by omega
 generalize hwl:(rdl (iM l) (rdp T q).1).length=wl at hw0 a4
 have hlast:U l q (m*wl-1)=rd l q:=aAi hm m0 hw0
 rw[←hlast,←hU]
 have hpos:0<m*wl:=Nat.mul_pos m0 hw0
 unfold lastB tw rd
 rw[hwl]
 congr 1
 obtain⟨j,hj⟩: ∃j:Nat,(rdp T q).2=j:=⟨(rdp T q).2.toNat,by omega⟩
 rw[hj,Int.toNat_natCast,show(j:Int)+(wl:Int)-1=((j+wl-1:Nat):Int) by omega,←Int.natCast_emod,Int.toNat_natCast]
 have e:j+(m*wl-1)=(j+wl-1)+wl*(m-1):=by
  obtain⟨m',rfl⟩: ∃m',m=m'+1:=⟨m-1,by omega⟩
  rw[Nat.succ_mul,Nat.add_sub_cancel,Nat.mul_comm wl m']
  omega
 rw[e,Nat.add_mul_mod_self_left]
end
def aDk:List Int:=(List.range 256).map fun c:Nat=>(c:Int)
theorem MG {x:Int}:x∈aDk↔0≤x∧x<256:=by
 unfold aDk
 rw[List.mem_map]
 constructor
 ·rintro ⟨c,hc,rfl⟩
  have:=List.mem_range.1 hc
  omega
 ·intro h
  exact⟨x.toNat,List.mem_range.2 (by omega),by omega⟩
theorem VL:aDk.Nodup:=List.pairwise_map.2 (List.Pairwise.imp (fun h e=>h (by omega)) List.nodup_range)
def PU:Nat→List (List Int)
 |0=>[[]]
 |n+1=>aDk.flatMap fun c=>(PU n).map fun w=>c::w
theorem mZ: ∀ {n:Nat} {w:List Int},w∈PU n↔w.length=n∧aN w
 |0,w=>by
  rw[PU,List.mem_singleton]
  exact⟨fun h=>by subst h;exact⟨rfl,fun x hx=>by cases hx⟩,fun h=>List.eq_nil_of_length_eq_zero h.1⟩
 | n+1,w=>by
  rw[PU,List.mem_flatMap]
  constructor
  ·rintro ⟨c,hc,hw⟩
   obtain⟨v,hv,rfl⟩:=List.mem_map.1 hw
   have hv:=mZ.1 hv
   refine⟨by simp[hv.1],fun x hx=> ?_⟩
   rcases List.mem_cons.1 hx with rfl|hx
   ·exact MG.1 hc
   ·exact hv.2 x hx
  ·rintro ⟨hl,hb⟩
   cases w with
   |nil=>simp at hl
   |cons c v=>exact⟨c,MG.2 (hb c (by simp)),List.mem_map.2 ⟨v,mZ.2 ⟨by simpa using hl,fun x hx=>hb x (List.mem_cons_of_mem _ hx)⟩,rfl⟩⟩
theorem JI: ∀n:Nat,(PU n).Nodup
 |0=>by rw[PU];exact List.pairwise_singleton _ _
 |n+1=>by
  rw[PU]
  refine List.pairwise_flatMap.2 ⟨fun c _=>List.pairwise_map.2 ((JI n).imp fun h e=>h (List.cons.inj e).2),VL.imp fun {c d} h x hx y hy e=> ?_⟩
  obtain⟨v,_,rfl⟩:=List.mem_map.1 hx
  obtain⟨w,_,rfl⟩:=List.mem_map.1 hy
  exact h (List.cons.inj e).1
theorem aPs {l k:List Int} (hl:aN l) (hk:aN k) (hlen:l.length=k.length) (h:backL l (fE (lfL l))=backL k (fE (lfL k))):l=k:=by
 have hw:iM l=iM k:=by rw[←JD hl,←JD hk,h]
 have all: ∀ {x:List Int},aN x→((jD (iM x) (iM x).length).map (tw (iM x))).Perm ((iota x.length).map (U x)):=fun {x} hx=>by
  have hlx:(iM x).length=(fE (lfL x)).length:=by unfold iM;rw[List.length_map,List.length_reverse]
  rw[hlx]
  refine(vX hx _ (Nat.le_refl _)).trans ?_
  rw[List.take_of_length_le (by rw[List.length_reverse];exact Nat.le_refl _)]
  have hc:=BB (lN hx)
  rw[mU] at hc
  exact(((List.reverse_perm _).flatten).trans hc).map _
 have srt: ∀ {x:List Int},aN x→((iota x.length).map (U x)).Pairwise fun a b=> ¬Lt b a:=fun {x} hx=>List.pairwise_map.2 (List.Pairwise.imp_of_mem (fun {i k} hi hk h=>by
  have hi:=aW.1 hi
  have hk:=aW.1 hk
  exact aQe hx hi.1 (Int.le_of_lt h) hk.2) (yN x.length))
 have h1:=all hl
 rw[hw] at h1
 have same:(iota l.length).map (U l)=(iota k.length).map (U k):=(h1.symm.trans (all hk)).eq_of_pairwise (fun a b _ _ x y=>by
  rcases GY a b with z|z|z
  ·exact absurd z y
  ·exact funext z
  ·exact absurd z x) (srt hl) (srt hk)
 refine bH hlen fun q q0 q1=> ?_
 have at_: ∀ {x:List Int},q<x.length→((iota x.length).map (U x))[q.toNat]? =some (U x q):=fun {x} hx=>by
  rw[List.getElem?_map,List.getElem?_eq_getElem (by rw[bE];omega)]
  have:=vB (n:=x.length) q0 hx
  rw[eQ q0 (by rw[bE];omega)] at this
  rw[this]
  rfl
 have e:=at_ q1
 rw[same,at_ (by omega)] at e
 have eU:U k q=U l q:=Option.some.inj e
 obtain⟨m,m0,hm⟩:=zU hl q0 q1
 obtain⟨m',m0',hm'⟩:=zU hk q0 (by omega:q<k.length)
 have a:=aAi hm m0 m0'
 have b:=aAi hm' m0' m0
 rw[Nat.mul_comm,eU,a] at b
 exact b
theorem aIg {s:List Int} (hs:aN s): ∃l:List Int,aN l∧l.length=s.length∧backL l (fE (lfL l))=s:=by
 have hp:((PU s.length).map fun l=>backL l (fE (lfL l))).Perm (PU s.length):=by
  refine oV ?_ (fun x hx=> ?_) (by simp)
  ·refine List.pairwise_map.2 (List.Pairwise.imp_of_mem (fun {a b} ha hb hab e=> ?_) (JI _))
   have ha:=mZ.1 ha
   have hb:=mZ.1 hb
   exact hab (aPs ha.2 hb.2 (by omega) e)
  ·obtain ⟨l,hl,rfl⟩:=List.mem_map.1 hx
   have hl:=mZ.1 hl
   exact mZ.2 ⟨by rw[aIh,UO (lN hl.2),mU,hl.1],aIi hl.2 _⟩
 obtain⟨l,hl,e⟩:=List.mem_map.1 (hp.symm.subset (mZ.2 ⟨rfl,hs⟩))
 have hl:=mZ.1 hl
 exact⟨l,hl.2,hl.1,e⟩
theorem aIf {s:List Int} (hs:aN s) {T:List (Int × Int)} (hp:T.Perm (jD (bws s) (bws s).length)) (ho:T.Pairwise (qV (bws s))):backL (T.map (lastB (bws s))) (fE (lfL (T.map (lastB (bws s)))))=s:=by
 obtain⟨l,hl,_,e⟩:=aIg hs
 subst e
 rw[aEb hl hp ho]
noncomputable def fQ (t o:Int) (n:Nat) (u:List Int) (k:Nat):List Int:=
 (((List.range (chK u.length n)).drop k).map fun j=>dO t o ((u.drop (j*n)).take n)).flatten++(bQ 0++bQ u.length)
theorem zW {t o:Int} {n:Nat} {u:List Int} {k:Nat} (h:chK u.length n≤k):fQ t o n u k=bQ 0++bQ u.length:=by
 unfold fQ
 rw[List.drop_eq_nil_of_le (by rw[List.length_range];exact h)]
 rfl
theorem XL {t o:Int} {n:Nat} {u:List Int} {k:Nat} (h:k<chK u.length n):fQ t o n u k=dO t o ((u.drop (k*n)).take n)++fQ t o n u (k+1):=by
 unfold fQ
 rw[List.drop_eq_getElem_cons (by rw[List.length_range];exact h),List.map_cons,List.flatten_cons,List.getElem_range,List.append_assoc]
theorem iP (t so o sz:Int) (u:List Int):mP t so o sz u=[87,72,82,76,1]++([t,so,o]++(bQ sz++fQ t o sz.toNat u 0)):=by
 unfold mP fQ kP
 rw[List.drop_zero]
 simp
theorem aPh {m n k:Nat} (hn:1≤n):k<chK m n↔k*n<m:=by
 unfold chK
 rw[Nat.lt_iff_add_one_le,Nat.le_div_iff_mul_le hn,Nat.add_mul,Nat.one_mul]
 omega
theorem aN.back {x y:List Int} (h:aN (x++y)):aN y:=fun z hz=>h z (List.mem_append_right _ hz)
theorem dX {t so o sz:Int} {u:List Int} (hu:aN u) (hS:u.length≤400) (ht:0≤t∧t<256) (hs:0≤so∧so<256) (ho:0≤o∧o<256) (hz:1≤sz∧sz≤16777216):aN (mP t so o sz u)∧(mP t so o sz u).length≤400000:=by
 have e1:=nE (t:=t) (o:=o) (n:=sz.toNat) hu (by omega) (chK u.length sz.toNat)
 have e2:chK u.length sz.toNat≤u.length:=aPi (by omega)
 have e3:(2*u.length+22)*chK u.length sz.toNat≤822*400:=Nat.mul_le_mul (by omega) (by omega)
 have e4:=fB 4 sz (by omega)
 have e5:=fB 4 (u.length:Int) (by omega)
 have e6:(bQ 0).length=1:=rfl
 unfold mP
 refine⟨fun x hx=> ?_,by simp only[List.length_append,List.length_cons,List.length_nil];omega⟩
 rcases List.mem_append.1 hx with hx|hx
 ·rcases List.mem_append.1 hx with hx|hx
  ·rcases List.mem_append.1 hx with hx|hx
   ·simp only[List.cons_append,List.nil_append,List.mem_cons,List.not_mem_nil,or_false] at hx
    omega
   ·exact eY (by omega) x hx
  ·exact e1.2 x hx
 ·rcases List.mem_append.1 hx with hx|hx
  ·exact eY (by omega) x hx
  ·exact eY (by omega) x hx
def jF (w:List Int) (n k:Nat):List Int:=(w.drop (k*n)).take n
theorem VI (w:List Int) (n k:Nat):(jF w n k).length=min n (w.length-k*n):=by unfold jF;rw[List.length_take,List.length_drop]
theorem NH (w:List Int) (n k:Nat):w.take ((k+1)*n)=w.take (k*n)++jF w n k:=by
 unfold jF
 rw[Nat.add_mul,Nat.one_mul,List.take_add]
theorem JA {w:List Int} (h:aN w) (n k:Nat):aN (jF w n k):=(h.drop _).take _
noncomputable def jC (t o:Int) (b r:List Int):List Int:=(jJ t b).1++(bQ (dJ (jJ t b).2 o).length++(iE (bv (jP b))++(dJ (jJ t b).2 o++r)))
theorem FI {t o:Int} {n:Nat} {w:List Int} {k:Nat} (h:k<chK w.length n):fQ t o n w k=bQ (jF w n k).length++jC t o (jF w n k) (fQ t o n w (k+1)):=by
 rw[XL h]
 unfold dO jC jF
 simp only[List.append_assoc]
theorem RD {α:Type} {r:α→α→Prop} (tr: ∀a b c,r a b→r b c→r a c) (a:α): ∀m:List α,m.Pairwise r→(∀b∈m,r a b∨r b a)→ ∃m':List α,m'.Perm (a::m)∧m'.Pairwise r
 |[],_,_=>⟨[a], .refl _,List.pairwise_singleton _ _⟩
 | b::m,hm,hr=>by
  obtain⟨h1,h2⟩:=List.pairwise_cons.1 hm
  rcases hr b (by simp) with h|h
  ·exact⟨a::b::m, .refl _,List.pairwise_cons.2 ⟨fun c hc=>by
    rcases List.mem_cons.1 hc with rfl|hc
    ·exact h
    ·exact tr _ _ _ h (h1 c hc),hm⟩⟩
  ·obtain ⟨m',hp,hs⟩:=RD tr a m h2 fun c hc=>hr c (List.mem_cons_of_mem _ hc)
   refine⟨b::m',(hp.cons b).trans (.swap a b m),List.pairwise_cons.2 ⟨fun c hc=> ?_,hs⟩⟩
   rcases List.mem_cons.1 (hp.subset hc) with rfl|hc
   ·exact h
   ·exact h1 c hc
theorem RF {α:Type} {r:α→α→Prop} (tr: ∀a b c,r a b→r b c→r a c): ∀l:List α,(l.Pairwise fun a b=>r a b∨r b a)→ ∃m:List α,m.Perm l∧m.Pairwise r
 |[],_=>⟨[], .refl _, .nil⟩
 |a::l,h=>by
  obtain⟨h1,h2⟩:=List.pairwise_cons.1 h
  obtain⟨m,hp,hs⟩:=RF tr l h2
  obtain⟨m',hp',hs'⟩:=RD tr a m hs fun b hb=>h1 b (hp.subset hb)
  exact⟨m',hp'.trans (hp.cons a),hs'⟩
theorem aLv {ws:List (List Int)} {t u:Int × Int} (h:t≠u):qV ws t u∨qV ws u t:=by
 rcases GY (tw ws t) (tw ws u) with a|a|a
 ·exact .inl (.inl a)
 ·have hd:t.1≠u.1∨t.2≠u.2:=by
   rcases Int.decEq t.1 u.1 with c|c
   ·exact .inl c
   ·exact .inr fun e=>h (Prod.ext c e)
  have:ltI t u∨ltI u t:=by unfold ltI;omega
  rcases this with g|g
  ·exact .inl (.inr ⟨a,g⟩)
  ·exact .inr (.inr ⟨fun i=>(a i).symm,g⟩)
 ·exact .inr (.inl a)
theorem KA (ws:List (List Int)): ∃T:List (Int × Int),T.Perm (jD ws ws.length)∧T.Pairwise (qV ws):=
 RF (r:=qV ws) (fun _ _ _ h g=>XZ h g) _ ((sZ ws _).imp fun h=>aLv h)
end Go.Pure

namespace Go.Proofs.YtdbebmmhdefgdaaGreat
open Go Go.Eng Go.Pure
open Tryz
set_option maxRecDepth 100000
theorem aPx {B:Nat} {w0:World} {R:List Row} {g gc:Nat} {At:Option Addr} {nt ct:Nat} {p1 p2 p3 ms tt ls:Int} {A_l:Option Addr} {n_l c_l:Nat} {l:List Int} (h_l:RdC B w0 R A_l n_l c_l 1 (ints .u8 l)) (hn_l:n_l=l.length):
  Ct Tryz.prog 161 #[.pointer (GG g), .slice A_l n_l c_l, .slice none 0 0] B w0 (⟨87,10,(GG g),1,1,[.pointer (GG gc),I 0,I p1,I p2,I p3,I ms,I tt,I ls, .slice At nt ct, .slice none 0 0],false⟩::R) (fun v R'=>v= .tuple #[.slice A_l n_l c_l,I 0]∧R'=⟨87,10,(GG g),1,1,[.pointer (GG gc),I 0,I p1,I p2,I p3,I ms,I tt,I ls, .slice At nt ct, .slice none 0 0],false⟩::R):=by
 subst hn_l
 refine fn2 Tryz.func161 Z Z Z ?_
 refine wq<|wg Z<|wg Z<|aA<|aG<|wq<|wm Z<|wy (aF Z)<|wy (aC (off:=1) (m:=1) underlying87 Z gL Z Z Z)<|wy (aC (off:=0) (m:=1) underlying27 Z sz3 Z Z Z)<|wy (aK (rdr 0 Z) underlying3 Z Z Z)<|aA<|aI ?_
 refine wq<|wy (Yl.f (dI Z Z) (by decide))<|wg Z<|aA<|aQ Z<|wq<|wy (Yl.f (dI Z Z) (by decide))<|wg Z<|aA<|aQ Z<|wq<|wy (Yl.f (dI Z Z) (by decide)) ?_
 refine wg Z<|aA<|aQ Z<|aJ<|wq<|wm Z<|wg Z<|wg Z<|aA<|bX (R1:=(⟨87,10,(GG g),1,1,[.pointer (GG gc),I 0,I p1,I p2,I p3,I ms,I tt,I ls, .slice At nt ct, .slice none 0 0],false⟩::R)) (fun _ h=>h) ?_
 refine⟨_,_,Z,Z,?_⟩
 exact⟨Z,Z⟩
theorem aPw {B:Nat} {w0:World} {R:List Row} {g gc:Nat} {At:Option Addr} {nt ct:Nat} {p1 p2 p3 ms tt ls:Int} {A_l:Option Addr} {n_l c_l:Nat} {l:List Int} {A_m:Option Addr} {c_m:Nat} {b:List Int} {at_:Int} (h_l:RdC B w0 R A_l n_l c_l 1 (ints .u8 l)) (hn_l:n_l=l.length) (h_m:RdC B w0 R A_m 1 c_m 1 (ints .i64 [at_])) (bh_l:aN l) (hok:aZg l at_) (hb:pM l at_=b) (hN:l.length≤100000):
  Ct Tryz.prog 161 #[.pointer (GG g), .slice A_l n_l c_l, .slice A_m 1 c_m] B w0 (⟨87,10,(GG g),1,1,[.pointer (GG gc),I 1,I p1,I p2,I p3,I ms,I tt,I ls, .slice At nt ct, .slice none 0 0],false⟩::R) (fun v R'=> ∃(A8:Option Addr) (c8:Nat),v= .tuple #[.slice A8 b.length c8,I 0]∧R'=(ru 5 A8 b.length c8 b)::⟨87,10,(GG g),1,1,[.pointer (GG gc),I 1,I p1,I p2,I p3,I ms,I tt,I ls, .slice At nt ct, .slice none 0 0],false⟩::R):=by
 subst hn_l
 refine fn2 Tryz.func161 Z Z Z ?_
 refine wq<|wg Z<|wg Z<|aA<|aG<|wq<|wm Z<|wy (aF Z)<|wy (aC (off:=1) (m:=1) underlying87 Z gL Z Z Z)<|wy (aC (off:=0) (m:=1) underlying27 Z sz3 Z Z Z)<|wy (aK (rdr 0 Z) underlying3 Z Z Z)<|aA<|aI ?_
 refine wq<|wy (Yl.t (dI Z Z) (by decide))<|wg Z<|aA<|dB Z<|wq<|wm Z<|wm Z<|wy (aH underlying52 sz3 Z Z (RdC.right h_m [_]) (by first|decide|omega) (by first|decide|omega)) ?_
 refine wy (aX underlying3 Z Z (RdC.right h_m [_]) (by first|decide|omega) (by first|decide|omega)) ?_
 refine wa (aD bCv Z (Ct.fresh (fun w hw=>aPr ((RdC.right h_l [_]) w hw) bh_l hok hN))) ?_
 rintro _ _ ⟨_,rfl,A_1,c_2,rfl,rfl⟩
 refine wX Z Z<|wX Z Z<|wg Z<|wg Z<|aA<|bX (R1:=((ru 5 A_1 l.length c_2 (pM l (rd ([at_]) 0)))::⟨87,10,(GG g),1,1,[.pointer (GG gc),I 1,I p1,I p2,I p3,I ms,I tt,I ls, .slice At nt ct, .slice none 0 0],false⟩::R)) (fun _ h=>h) ?_
 refine⟨_,_,Z,Z,?_⟩
 have hbl:l.length=b.length:=by rw[←hb,vK]
 rw[hbl]
 have hb2:pM l (rd [at_] 0)=b:=hb
 rw[hb2]
 exact⟨_,_,Z,Z⟩
theorem aPv {B:Nat} {w0:World} {R:List Row} {g gc:Nat} {At:Option Addr} {nt ct:Nat} {p1 p2 p3 ms tt ls:Int} {A_l:Option Addr} {n_l c_l:Nat} {l:List Int} {b:List Int} (h_l:RdC B w0 R A_l n_l c_l 1 (ints .u8 l)) (hn_l:n_l=l.length) (bh_l:aN l) (hb:backL l (fE (fsL l))=b) (hN:l.length≤100000):
  Ct Tryz.prog 161 #[.pointer (GG g), .slice A_l n_l c_l, .slice none 0 0] B w0 (⟨87,10,(GG g),1,1,[.pointer (GG gc),I 2,I p1,I p2,I p3,I ms,I tt,I ls, .slice At nt ct, .slice none 0 0],false⟩::R) (fun v R'=> ∃(A8:Option Addr) (c8:Nat),v= .tuple #[.slice A8 b.length c8,I 0]∧R'=(ru 5 A8 b.length c8 b)::⟨87,10,(GG g),1,1,[.pointer (GG gc),I 2,I p1,I p2,I p3,I ms,I tt,I ls, .slice At nt ct, .slice none 0 0],false⟩::R):=by
 subst hn_l
 refine fn2 Tryz.func161 Z Z Z ?_
 refine wq<|wg Z<|wg Z<|aA<|aG<|wq<|wm Z<|wy (aF Z)<|wy (aC (off:=1) (m:=1) underlying87 Z gL Z Z Z)<|wy (aC (off:=0) (m:=1) underlying27 Z sz3 Z Z Z)<|wy (aK (rdr 0 Z) underlying3 Z Z Z)<|aA<|aI ?_
 refine wq<|wy (Yl.f (dI Z Z) (by decide))<|wg Z<|aA<|aQ Z<|wq<|wy (Yl.t (dI Z Z) (by decide))<|wg Z<|aA<|dB Z<|wq<|wm Z ?_
 refine wa (aD bCu Z (Ct.fresh (fun w hw=>aAa ((RdC.right h_l [_]) w hw) bh_l hN))) ?_
 rintro _ _ ⟨_,rfl,A_1,c_2,rfl,rfl⟩
 refine wX Z Z<|wX Z Z<|wg Z<|wg Z<|aA<|bX (R1:=((ru 5 A_1 ((backL l (fE (fsL l))).length) c_2 (backL l (fE (fsL l))))::⟨87,10,(GG g),1,1,[.pointer (GG gc),I 2,I p1,I p2,I p3,I ms,I tt,I ls, .slice At nt ct, .slice none 0 0],false⟩::R)) (fun _ h=>h) ?_
 refine⟨_,_,Z,Z,?_⟩
 rw[hb]
 exact⟨_,_,Z,Z⟩
set_option maxHeartbeats 2000000 in
theorem ZW {B:Nat} {w0:World} {X R0:List Row} {g gc:Nat} {A_u At:Option Addr} {n_u c_u nt ct:Nat} {u:List Int} {p1 p2 p3 ms tt ls:Int} {s b t:List Int} (h_u:RdC B w0 R0 A_u n_u c_u 1 (ints .u8 u)) (hn_u:n_u=u.length) (hN:u.length≤1000000) (bh_u:aN u) (hn_t:nt=s.length) (hu:u=jC 0 p2 b t) (bh_b:aN b) (hbs:b.length≤100000∧s.length≤100000) (hf:((b.length:Nat):Int)≤p3∧((b.length:Nat):Int)≤ms-tt) (hp2:p2=0∨p2=1) (hb:(-1000000≤ms∧ms≤1000000)∧(0≤tt∧tt≤1000000)):
  Ct Tryz.prog 91 #[.pointer (GG g),I ((b.length:Nat):Int)] B w0 (⟨87,10,(GG g),1,1,[.pointer (GG gc),I 0,I p1,I p2,I p3,I ms,I tt,I ls, .slice At nt ct, .slice none 0 0],false⟩::⟨146,1,(GG gc),1,1,[.slice A_u n_u c_u],false⟩::(ru 5 At nt ct s)::(X++R0)) (fun v R'=> ∃(A7:Option Addr) (c7:Nat),∃(A9:Option Addr) (c9:Nat),RdC B w0 R0 A9 (t).length c9 1 (ints .u8 (t))∧v=I 0∧R'=⟨87,10,(GG g),1,1,[.pointer (GG gc),I 0,I p1,I p2,I p3,I ms,I (tt+((b.length:Nat):Int)),I ls, .slice A7 ((s++b).length) c7, .slice none 0 0],false⟩::⟨146,1,(GG gc),1,1,[.slice A9 ((t).length) c9],false⟩::(ru 5 A7 ((s++b).length) c7 (s++b))::(X++R0)):=by
 subst hn_u
 subst hn_t
 rw[jC,QO (t:=0) (by decide) (by decide)] at hu
 dsimp only at hu
 rw[List.nil_append] at hu
 have hLl:b.length=b.length:=rfl
 have hul:=congrArg List.length hu
 simp only[List.length_append] at hul
 have hbb:=bh_u
 rw[hu] at hbb
 have hcs:0≤bv (jP b)∧bv (jP b)<4294967296:=⟨by unfold bv;omega,by unfold bv;have:=(jP b).isLt;omega⟩
 refine fn1 Tryz.func91 Z Z Z ?_
 refine wq<|wg Z<|aA<|aG<|wq<|wm Z<|wm Z<|wa (aD MX Z (Ct.at 0 Z (IA hf.1 (by omega)))) ?_
 rintro _ _ ⟨rfl,rfl⟩
 refine pQ 13 Z (by omega)<|wy (dH Z)<|aA<|aQ Z<|aJ<|wq<|wm Z<|wy (aF Z)<|wy (aC (off:=6) (m:=6) underlying87 Z sz3 Z Z Z)<|wy (aK (rdr 0 Z) underlying3 Z Z Z)<|wm Z<|wA Z Z<|wy (aF Z)<|wy (aC (off:=6) (m:=6) underlying87 Z sz3 Z Z Z) ?_
 refine bY (bF 0 Z Z Z sz3 Z Z Z Z (Nat.le_of_ble_eq_true Z)) ?_
 rintro _ _ rfl
 refine aA<|wq<|wm Z<|wm Z<|wa (aD aOm Z (Ct.at 0 Z (aFt))) ?_
 rintro _ _ ⟨rfl,rfl⟩
 refine wm Z<|wX Z Z<|wX Z Z<|wg Z<|wg Z<|aA<|aG<|wq<|wm Z<|wy (dH Z)<|aA<|aQ Z<|aJ<|aG ?_
 refine aL<|wm Z<|wm Z<|wa (aD aOl Z ((AC (X:=([(ru 5 At s.length ct s)]++X)) (R0:=R0) (x:=bv (jP b)) (l:=b) (t:=t) h_u Z (by omega) bh_u hcs hp2 bh_b (by omega) hu))) ?_
 rintro _ _ ⟨A_4,c_5,A_1,c_2,hr_3,rfl,rfl⟩
 refine wm Z<|wX Z Z<|wX Z Z<|wX Z Z<|wg Z<|wg Z<|wg Z<|aA<|aG<|wq<|wm Z<|wy (dH Z)<|aA<|aQ Z ?_
 refine aJ<|wq<|wm Z<|wm Z<|wm Z<|wa (aD aOk Z (Ct.pick [1,0,2,3] 4 (by decide) Z (aPx (rdr 0 Z) Z))) ?_
 rintro _ _ ⟨rfl,rfl⟩
 refine wm Z<|wX Z Z<|wX Z Z<|wg Z<|wg Z<|aA<|aG<|wq<|wm Z<|wy (Yl.f (iT Z Z) (by decide))<|aA<|aQ Z<|aJ<|aG ?_
 refine wq<|wa (aD aHc Z (Ct.fresh (fun w hw=>oF))) ?_
 rintro _ _ ⟨_,rfl,g_6,rfl,rfl⟩
 refine wm Z<|wa (nG [Value.slice A_4 ((b).length) c_5] underlying23 wV Z Z Z Z) ?_
 rintro _ _ ⟨g_8,rfl,rfl⟩
 refine wa (aD aHb Z (Ct.at 1 Z (oD (ls:=[b]) (.inl ⟨Z,Z,List.length_replicate ..,by omega⟩) (rdr 0 rfl) rfl (wT.one (l:=b) (rdr 2 rfl) bh_b (by first|rfl|simp|(simp[upd];done))) (Big.one (by first|omega|decide|simp))))) ?_
 rintro _ _ ⟨rfl,rfl⟩
 refine wm Z<|wy (Yl.f (aIs (p:=jP ([b]).flatten) (q:=jP b) Z Z) (fun h=>h (by simp))) ?_
 refine aA<|aQ Z<|aJ<|aG<|wq<|wm Z<|wy (aF Z)<|wy (aC (off:=1) (m:=1) underlying87 Z gL Z Z Z)<|wy (aC (off:=0) (m:=1) underlying27 Z sz3 Z Z Z)<|wy (aK (rdr 2 Z) underlying3 Z Z Z)<|wy (Yl.t (iT Z Z) (by decide))<|aA<|dB Z<|aL ?_
 refine wm Z<|wm Z<|wy (aF Z)<|wy (aC (off:=8) (m:=8) underlying87 Z rT Z Z Z)<|wy (aC (off:=0) (m:=8) underlying25 Z fP Z Z Z)<|wy (aK (rdr 2 Z) underlying22 Z Z Z)<|wm Z<|wa (bD 5 Z underlying22 zb5 Z Z Z (rdr 3 Z) (by omega)) ?_
 rintro _ _ ⟨A_9,c_10,rfl,rfl⟩
 refine bO (v:= .slice A_9 (s.length+((b).length)) c_10) Z<|wy (aF Z)<|wy (aC (off:=8) (m:=8) underlying87 Z rT Z Z Z)<|wy (aC (off:=0) (m:=8) underlying25 Z fP Z Z Z)<|bY (bF 2 Z Z Z fP Z Z Z Z (Nat.le_of_ble_eq_true Z)) ?_
 rintro _ _ rfl
 refine aA<|wq<|wg Z<|aA<|bA [2,4,5] 6 (by decide) Z ?_
 refine⟨_,Z,?_⟩
 have hsb:s.length+b.length=(s++b).length:=by rw[List.length_append]
 rw[hsb]
 exact⟨_,_,_,_,hr_3,Z,Z⟩
set_option maxHeartbeats 2000000 in
theorem ZU {B:Nat} {w0:World} {X R0:List Row} {g gc:Nat} {A_u At:Option Addr} {n_u c_u nt ct:Nat} {u:List Int} {p1 p2 p3 ms tt ls:Int} {s b t:List Int} (h_u:RdC B w0 R0 A_u n_u c_u 1 (ints .u8 u)) (hn_u:n_u=u.length) (hN:u.length≤1000000) (bh_u:aN u) (hn_t:nt=s.length) (hu:u=jC 1 p2 b t) (bh_b:aN b) (hbs:b.length≤100000∧s.length≤100000) (hf:((b.length:Nat):Int)≤p3∧((b.length:Nat):Int)≤ms-tt) (hp2:p2=0∨p2=1) (hb:(-1000000≤ms∧ms≤1000000)∧(0≤tt∧tt≤1000000)):
  Ct Tryz.prog 91 #[.pointer (GG g),I ((b.length:Nat):Int)] B w0 (⟨87,10,(GG g),1,1,[.pointer (GG gc),I 1,I p1,I p2,I p3,I ms,I tt,I ls, .slice At nt ct, .slice none 0 0],false⟩::⟨146,1,(GG gc),1,1,[.slice A_u n_u c_u],false⟩::(ru 5 At nt ct s)::(X++R0)) (fun v R'=> ∃(A7:Option Addr) (c7:Nat),∃(A9:Option Addr) (c9:Nat),RdC B w0 R0 A9 (t).length c9 1 (ints .u8 (t))∧v=I 0∧R'=⟨87,10,(GG g),1,1,[.pointer (GG gc),I 1,I p1,I p2,I p3,I ms,I (tt+((b.length:Nat):Int)),I ls, .slice A7 ((s++b).length) c7, .slice none 0 0],false⟩::⟨146,1,(GG gc),1,1,[.slice A9 ((t).length) c9],false⟩::(ru 5 A7 ((s++b).length) c7 (s++b))::(X++R0)):=by
 subst hn_u
 subst hn_t
 obtain⟨a,hpa,hsa⟩:=nR b
 rw[jC,QP hpa hsa] at hu
 have hz:=nJ hpa hsa
 have hz2:=FB (s:=b) (k:=0) (by omega)
 dsimp only at hu
 have hLl:(ofL b a).length=b.length:=(GL hpa hsa).length_eq
 have hul:=congrArg List.length hu
 simp only[List.length_append] at hul
 have hbb:=bh_u
 rw[hu] at hbb
 have hcs:0≤bv (jP b)∧bv (jP b)<4294967296:=⟨by unfold bv;omega,by unfold bv;have:=(jP b).isLt;omega⟩
 refine fn1 Tryz.func91 Z Z Z ?_
 refine wq<|wg Z<|aA<|aG<|wq<|wm Z<|wm Z<|wa (aD MX Z (Ct.at 0 Z (HZ hf.1 (by omega)))) ?_
 rintro _ _ ⟨rfl,rfl⟩
 refine pQ 13 Z (by omega)<|wy (dH Z)<|aA<|aQ Z<|aJ<|wq<|wm Z<|wy (aF Z)<|wy (aC (off:=6) (m:=6) underlying87 Z sz3 Z Z Z)<|wy (aK (rdr 0 Z) underlying3 Z Z Z)<|wm Z<|wA Z Z<|wy (aF Z)<|wy (aC (off:=6) (m:=6) underlying87 Z sz3 Z Z Z) ?_
 refine bY (bF 0 Z Z Z sz3 Z Z Z Z (Nat.le_of_ble_eq_true Z)) ?_
 rintro _ _ rfl
 refine aA<|wq<|wm Z<|wm Z<|wa (aD aOm Z ((aFs (X:=([(ru 5 At s.length ct s)]++X)) (R0:=R0) (at_:=(zat a)) (t:=bQ ((dJ (ofL b a) p2).length:Int)++(iE (bv (jP b))++(dJ (ofL b a) p2++t))) h_u Z (by omega) (by assumption) (by omega) hu))) ?_
 rintro _ _ ⟨A_4,A_1,c_2,hr_3,rfl,rfl⟩
 refine wm Z<|wX Z Z<|wX Z Z<|wg Z<|wg Z<|aA<|aG<|wq<|wm Z<|wy (dH Z)<|aA<|aQ Z<|aJ<|aG ?_
 refine aL<|wm Z<|wm Z<|wa (aD aOl Z (Ct.pick [1,2,0,3] 4 (by decide) Z (AC (X:=([(ri 3 A_4 1 1 ([(zat a)])),(ru 5 At s.length ct s)]++X)) (R0:=R0) (x:=bv (jP b)) (l:=(ofL b a)) (t:=t) hr_3 Z (by simp only[List.length_append];omega) (aN.back hbb) hcs hp2 (yB bh_b hpa) (by omega) Z))) ?_
 rintro _ _ ⟨A_8,c_9,A_5,c_6,hr_7,rfl,rfl⟩
 refine wm Z<|wX Z Z<|wX Z Z<|wX Z Z<|wg Z<|wg Z<|wg Z<|aA<|aG<|wq<|wm Z<|wy (dH Z)<|aA<|aQ Z ?_
 refine aJ<|wq<|wm Z<|wm Z<|wm Z<|wa (aD aOk Z (Ct.pick [1,0,2,3,4] 5 (by decide) Z (aPw (rdr 0 Z) Z (rdr 2 Z) (yB bh_b hpa) (BN bh_b hpa hsa).1 (BN bh_b hpa hsa).2 (by omega)))) ?_
 rintro _ _ ⟨A_10,c_11,rfl,rfl⟩
 refine wm Z<|wX Z Z<|wX Z Z<|wg Z<|wg Z<|aA<|aG<|wq<|wm Z<|wy (Yl.f (iT Z Z) (by decide))<|aA<|aQ Z<|aJ<|aG ?_
 refine wq<|wa (aD aHc Z (Ct.fresh (fun w hw=>oF))) ?_
 rintro _ _ ⟨_,rfl,g_12,rfl,rfl⟩
 refine wm Z<|wa (nG [Value.slice A_10 ((b).length) c_11] underlying23 wV Z Z Z Z) ?_
 rintro _ _ ⟨g_14,rfl,rfl⟩
 refine wa (aD aHb Z (Ct.at 1 Z (oD (ls:=[b]) (.inl ⟨Z,Z,List.length_replicate ..,by omega⟩) (rdr 0 rfl) rfl (wT.one (l:=b) (rdr 1 rfl) bh_b (by first|rfl|simp|(simp[upd];done))) (Big.one (by first|omega|decide|simp))))) ?_
 rintro _ _ ⟨rfl,rfl⟩
 refine wm Z<|wy (Yl.f (aIs (p:=jP ([b]).flatten) (q:=jP b) Z Z) (fun h=>h (by simp))) ?_
 refine aA<|aQ Z<|aJ<|aG<|wq<|wm Z<|wy (aF Z)<|wy (aC (off:=1) (m:=1) underlying87 Z gL Z Z Z)<|wy (aC (off:=0) (m:=1) underlying27 Z sz3 Z Z Z)<|wy (aK (rdr 3 Z) underlying3 Z Z Z)<|wy (Yl.t (iT Z Z) (by decide))<|aA<|dB Z<|aL ?_
 refine wm Z<|wm Z<|wy (aF Z)<|wy (aC (off:=8) (m:=8) underlying87 Z rT Z Z Z)<|wy (aC (off:=0) (m:=8) underlying25 Z fP Z Z Z)<|wy (aK (rdr 3 Z) underlying22 Z Z Z)<|wm Z<|wa (bD 7 Z underlying22 zb5 Z Z Z (rdr 2 Z) (by omega)) ?_
 rintro _ _ ⟨A_15,c_16,rfl,rfl⟩
 refine bO (v:= .slice A_15 (s.length+((b).length)) c_16) Z<|wy (aF Z)<|wy (aC (off:=8) (m:=8) underlying87 Z rT Z Z Z)<|wy (aC (off:=0) (m:=8) underlying25 Z fP Z Z Z)<|bY (bF 3 Z Z Z fP Z Z Z Z (Nat.le_of_ble_eq_true Z)) ?_
 rintro _ _ rfl
 refine aA<|wq<|wg Z<|aA<|bA [3,5,7] 8 (by decide) Z ?_
 refine⟨_,Z,?_⟩
 have hsb:s.length+b.length=(s++b).length:=by rw[List.length_append]
 rw[hsb]
 exact⟨_,_,_,_,hr_7,Z,Z⟩
set_option maxHeartbeats 2000000 in
theorem ZR {B:Nat} {w0:World} {X R0:List Row} {g gc:Nat} {A_u At:Option Addr} {n_u c_u nt ct:Nat} {u:List Int} {p1 p2 p3 ms tt ls:Int} {s b t:List Int} (h_u:RdC B w0 R0 A_u n_u c_u 1 (ints .u8 u)) (hn_u:n_u=u.length) (hN:u.length≤1000000) (bh_u:aN u) (hn_t:nt=s.length) (hu:u=jC 2 p2 b t) (bh_b:aN b) (hbs:b.length≤100000∧s.length≤100000) (hf:((b.length:Nat):Int)≤p3∧((b.length:Nat):Int)≤ms-tt) (hp2:p2=0∨p2=1) (hb:(-1000000≤ms∧ms≤1000000)∧(0≤tt∧tt≤1000000)):
  Ct Tryz.prog 91 #[.pointer (GG g),I ((b.length:Nat):Int)] B w0 (⟨87,10,(GG g),1,1,[.pointer (GG gc),I 2,I p1,I p2,I p3,I ms,I tt,I ls, .slice At nt ct, .slice none 0 0],false⟩::⟨146,1,(GG gc),1,1,[.slice A_u n_u c_u],false⟩::(ru 5 At nt ct s)::(X++R0)) (fun v R'=> ∃(A7:Option Addr) (c7:Nat),∃(A9:Option Addr) (c9:Nat),RdC B w0 R0 A9 (t).length c9 1 (ints .u8 (t))∧v=I 0∧R'=⟨87,10,(GG g),1,1,[.pointer (GG gc),I 2,I p1,I p2,I p3,I ms,I (tt+((b.length:Nat):Int)),I ls, .slice A7 ((s++b).length) c7, .slice none 0 0],false⟩::⟨146,1,(GG gc),1,1,[.slice A9 ((t).length) c9],false⟩::(ru 5 A7 ((s++b).length) c7 (s++b))::(X++R0)):=by
 subst hn_u
 subst hn_t
 obtain⟨T,hpT,hsT⟩:=KA (bws b)
 rw[jC,QQ hpT hsT] at hu
 dsimp only at hu
 rw[List.nil_append] at hu
 have hLl:(T.map (lastB (bws b))).length=b.length:=by rw[List.length_map,EB hpT]
 have hul:=congrArg List.length hu
 simp only[List.length_append] at hul
 have hbb:=bh_u
 rw[hu] at hbb
 have hcs:0≤bv (jP b)∧bv (jP b)<4294967296:=⟨by unfold bv;omega,by unfold bv;have:=(jP b).isLt;omega⟩
 refine fn1 Tryz.func91 Z Z Z ?_
 refine wq<|wg Z<|aA<|aG<|wq<|wm Z<|wm Z<|wa (aD MX Z (Ct.at 0 Z (HY hf.1 (by omega)))) ?_
 rintro _ _ ⟨rfl,rfl⟩
 refine pQ 13 Z (by omega)<|wy (dH Z)<|aA<|aQ Z<|aJ<|wq<|wm Z<|wy (aF Z)<|wy (aC (off:=6) (m:=6) underlying87 Z sz3 Z Z Z)<|wy (aK (rdr 0 Z) underlying3 Z Z Z)<|wm Z<|wA Z Z<|wy (aF Z)<|wy (aC (off:=6) (m:=6) underlying87 Z sz3 Z Z Z) ?_
 refine bY (bF 0 Z Z Z sz3 Z Z Z Z (Nat.le_of_ble_eq_true Z)) ?_
 rintro _ _ rfl
 refine aA<|wq<|wm Z<|wm Z<|wa (aD aOm Z (Ct.at 0 Z (aFr))) ?_
 rintro _ _ ⟨rfl,rfl⟩
 refine wm Z<|wX Z Z<|wX Z Z<|wg Z<|wg Z<|aA<|aG<|wq<|wm Z<|wy (dH Z)<|aA<|aQ Z<|aJ<|aG ?_
 refine aL<|wm Z<|wm Z<|wa (aD aOl Z ((AC (X:=([(ru 5 At s.length ct s)]++X)) (R0:=R0) (x:=bv (jP b)) (l:=(T.map (lastB (bws b)))) (t:=t) h_u Z (by omega) bh_u hcs hp2 (nA hpT (by rw[pK];exact bh_b)) (by omega) hu))) ?_
 rintro _ _ ⟨A_4,c_5,A_1,c_2,hr_3,rfl,rfl⟩
 refine wm Z<|wX Z Z<|wX Z Z<|wX Z Z<|wg Z<|wg Z<|wg Z<|aA<|aG<|wq<|wm Z<|wy (dH Z)<|aA<|aQ Z ?_
 refine aJ<|wq<|wm Z<|wm Z<|wm Z<|wa (aD aOk Z (Ct.pick [1,0,2,3] 4 (by decide) Z (aPv (rdr 0 Z) Z (nA hpT (by rw[pK];exact bh_b)) (aIf bh_b hpT hsT) (by omega)))) ?_
 rintro _ _ ⟨A_6,c_7,rfl,rfl⟩
 refine wm Z<|wX Z Z<|wX Z Z<|wg Z<|wg Z<|aA<|aG<|wq<|wm Z<|wy (Yl.f (iT Z Z) (by decide))<|aA<|aQ Z<|aJ<|aG ?_
 refine wq<|wa (aD aHc Z (Ct.fresh (fun w hw=>oF))) ?_
 rintro _ _ ⟨_,rfl,g_8,rfl,rfl⟩
 refine wm Z<|wa (nG [Value.slice A_6 ((b).length) c_7] underlying23 wV Z Z Z Z) ?_
 rintro _ _ ⟨g_10,rfl,rfl⟩
 refine wa (aD aHb Z (Ct.at 1 Z (oD (ls:=[b]) (.inl ⟨Z,Z,List.length_replicate ..,by omega⟩) (rdr 0 rfl) rfl (wT.one (l:=b) (rdr 1 rfl) bh_b (by first|rfl|simp|(simp[upd];done))) (Big.one (by first|omega|decide|simp))))) ?_
 rintro _ _ ⟨rfl,rfl⟩
 refine wm Z<|wy (Yl.f (aIs (p:=jP ([b]).flatten) (q:=jP b) Z Z) (fun h=>h (by simp))) ?_
 refine aA<|aQ Z<|aJ<|aG<|wq<|wm Z<|wy (aF Z)<|wy (aC (off:=1) (m:=1) underlying87 Z gL Z Z Z)<|wy (aC (off:=0) (m:=1) underlying27 Z sz3 Z Z Z)<|wy (aK (rdr 3 Z) underlying3 Z Z Z)<|wy (Yl.t (iT Z Z) (by decide))<|aA<|dB Z<|aL ?_
 refine wm Z<|wm Z<|wy (aF Z)<|wy (aC (off:=8) (m:=8) underlying87 Z rT Z Z Z)<|wy (aC (off:=0) (m:=8) underlying25 Z fP Z Z Z)<|wy (aK (rdr 3 Z) underlying22 Z Z Z)<|wm Z<|wa (bD 6 Z underlying22 zb5 Z Z Z (rdr 2 Z) (by omega)) ?_
 rintro _ _ ⟨A_11,c_12,rfl,rfl⟩
 refine bO (v:= .slice A_11 (s.length+((b).length)) c_12) Z<|wy (aF Z)<|wy (aC (off:=8) (m:=8) underlying87 Z rT Z Z Z)<|wy (aC (off:=0) (m:=8) underlying25 Z fP Z Z Z)<|bY (bF 3 Z Z Z fP Z Z Z Z (Nat.le_of_ble_eq_true Z)) ?_
 rintro _ _ rfl
 refine aA<|wq<|wg Z<|aA<|bA [3,5,6] 7 (by decide) Z ?_
 refine⟨_,Z,?_⟩
 have hsb:s.length+b.length=(s++b).length:=by rw[List.length_append]
 rw[hsb]
 exact⟨_,_,_,_,hr_3,Z,Z⟩
theorem ZX {B:Nat} {w0:World} {R:List Row} {g gc:Nat} {At:Option Addr} {nt ct:Nat} {p1 p2 p3 ms tt ls n:Int} (hf:n≤p3∧ms-tt<n) (hb:(-1000000≤ms∧ms≤1000000)∧(0≤tt∧tt≤1000000)):
  Ct Tryz.prog 91 #[.pointer (GG g),I n] B w0 (⟨87,10,(GG g),1,1,[.pointer (GG gc),I 0,I p1,I p2,I p3,I ms,I tt,I ls, .slice At nt ct, .slice none 0 0],false⟩::R) (fun v R'=>v=I 3∧R'=⟨87,10,(GG g),1,1,[.pointer (GG gc),I 0,I p1,I p2,I p3,I ms,I tt,I ls, .slice At nt ct, .slice none 0 0],false⟩::R):=by
 refine fn1 Tryz.func91 Z Z Z ?_
 refine wq<|wg Z<|aA<|aG<|wq<|wm Z<|wm Z<|wa (aD MX Z (Ct.at 0 Z (IA hf.1 (by omega)))) ?_
 rintro _ _ ⟨rfl,rfl⟩
 refine pR 13 Z (by omega)<|wy (dH Z)<|aA<|dB Z<|wq<|wg Z<|aA<|bX (R1:=(⟨87,10,(GG g),1,1,[.pointer (GG gc),I 0,I p1,I p2,I p3,I ms,I tt,I ls, .slice At nt ct, .slice none 0 0],false⟩::R)) (fun _ h=>h) ?_
 refine⟨_,Z,?_⟩
 exact⟨Z,Z⟩
theorem ZV {B:Nat} {w0:World} {R:List Row} {g gc:Nat} {At:Option Addr} {nt ct:Nat} {p1 p2 p3 ms tt ls n:Int} (hf:n≤p3∧ms-tt<n) (hb:(-1000000≤ms∧ms≤1000000)∧(0≤tt∧tt≤1000000)):
  Ct Tryz.prog 91 #[.pointer (GG g),I n] B w0 (⟨87,10,(GG g),1,1,[.pointer (GG gc),I 1,I p1,I p2,I p3,I ms,I tt,I ls, .slice At nt ct, .slice none 0 0],false⟩::R) (fun v R'=>v=I 3∧R'=⟨87,10,(GG g),1,1,[.pointer (GG gc),I 1,I p1,I p2,I p3,I ms,I tt,I ls, .slice At nt ct, .slice none 0 0],false⟩::R):=by
 refine fn1 Tryz.func91 Z Z Z ?_
 refine wq<|wg Z<|aA<|aG<|wq<|wm Z<|wm Z<|wa (aD MX Z (Ct.at 0 Z (HZ hf.1 (by omega)))) ?_
 rintro _ _ ⟨rfl,rfl⟩
 refine pR 13 Z (by omega)<|wy (dH Z)<|aA<|dB Z<|wq<|wg Z<|aA<|bX (R1:=(⟨87,10,(GG g),1,1,[.pointer (GG gc),I 1,I p1,I p2,I p3,I ms,I tt,I ls, .slice At nt ct, .slice none 0 0],false⟩::R)) (fun _ h=>h) ?_
 refine⟨_,Z,?_⟩
 exact⟨Z,Z⟩
theorem ZT {B:Nat} {w0:World} {R:List Row} {g gc:Nat} {At:Option Addr} {nt ct:Nat} {p1 p2 p3 ms tt ls n:Int} (hf:n≤p3∧ms-tt<n) (hb:(-1000000≤ms∧ms≤1000000)∧(0≤tt∧tt≤1000000)):
  Ct Tryz.prog 91 #[.pointer (GG g),I n] B w0 (⟨87,10,(GG g),1,1,[.pointer (GG gc),I 2,I p1,I p2,I p3,I ms,I tt,I ls, .slice At nt ct, .slice none 0 0],false⟩::R) (fun v R'=>v=I 3∧R'=⟨87,10,(GG g),1,1,[.pointer (GG gc),I 2,I p1,I p2,I p3,I ms,I tt,I ls, .slice At nt ct, .slice none 0 0],false⟩::R):=by
 refine fn1 Tryz.func91 Z Z Z ?_
 refine wq<|wg Z<|aA<|aG<|wq<|wm Z<|wm Z<|wa (aD MX Z (Ct.at 0 Z (HY hf.1 (by omega)))) ?_
 rintro _ _ ⟨rfl,rfl⟩
 refine pR 13 Z (by omega)<|wy (dH Z)<|aA<|dB Z<|wq<|wg Z<|aA<|bX (R1:=(⟨87,10,(GG g),1,1,[.pointer (GG gc),I 2,I p1,I p2,I p3,I ms,I tt,I ls, .slice At nt ct, .slice none 0 0],false⟩::R)) (fun _ h=>h) ?_
 refine⟨_,Z,?_⟩
 exact⟨Z,Z⟩
end Go.Proofs.YtdbebmmhdefgdaaGreat

namespace Go.Eng
open Go Go.RowKit Go.Pure
section
variable {P:Program} {n:Nd} {B:Nat} {w0:World} {L:Env} {R:List Row} {ty:TypeId}
def CellIs (L:Env) (R:List Row) (p sz:Nat) (xs:List Value):Prop:= ∃(g i:Nat) (r:Row),lk L p=some (.pointer (some ⟨g,0,none⟩))∧R[i]? =some r∧r.ro=false∧r.A=some ⟨g,0,none⟩∧r.n=1∧r.c=1∧r.sz=sz∧r.xs=xs
theorem CellIs.load {m:Nat} {p sz:Nat} {xs:List Value} {a:Act} {w:World} (h:CellIs L R p sz xs) (hs:Sat (m:Nd) L a) (hp:Hp B w0 w R): ∃g e,a.tmps[p]?.getD undef= .pointer (some ⟨g,0,none⟩)∧w.heap[g]? =some (.cells xs.toArray e (0,0))∧xs.length=sz:=by
 obtain⟨g,i,r,h1,h2,h3,h4,h5,h6,h7,h8⟩:=h
 have hown:=Row.lies_w (hp.own r (List.mem_of_getElem? h2)) h3
 rcases hown.2 with⟨hn,_⟩|⟨g',cap,cur,hv,_,hg,_,_,hcs,ht⟩
 ·rw[h4] at hn;cases hn
 ·rw [h4] at hv
  simp only[Value.slice.injEq,Option.some.injEq,Addr.mk.injEq,and_true,true_and] at hv
  obtain⟨rfl,rfl⟩:=hv
  rw[h5,h7,Nat.one_mul] at ht
  rw[h6,h7,Nat.one_mul] at hcs
  have e:cur=r.xs.toArray:=by
   rw[←ht,List.take_of_length_le (by rw[Array.length_toList];omega)]
  rw[h8] at e
  subst e
  exact⟨g,_,by have:=hs.getD h1;simpa using this,hg,by simpa using hcs⟩
theorem aVi {f:FuncId} {fn:Func} {c:Code} {args:List Value} {R:List Row} {Post:Value→List Row→Prop} {p1 p2 r3:Nat} {t1 t2:TypeId} {d1 d2:TypeDesc} {s1 s2:Nat} (hf:P.funcs[f]? =some fn) (hb:fn.body=some c) (hr:fn.results= #[.cell p1 t1, .cell p2 t2, .tmp r3]) (hl:Nat.ble args.length fn.ntmps=true)
  (hu1:P.underlying t1=some d1) (hd1:(match d1 with| .struct _| .array _ _=>true|_=>false)=true) (hi1:(P.info? t1).map (·.size)=some s1)
  (hu2:P.underlying t2=some d2) (hd2:(match d2 with| .struct _| .array _ _=>true|_=>false)=true) (hi2:(P.info? t2).map (·.size)=some s2)
  (h:W P fn.ntmps B w0 c ⟨fun L R'=> ∃xs ys u,CellIs L R' p1 s1 xs∧CellIs L R' p2 s2 ys∧lk L r3=some u∧ ∃R1,(∀w,Hp B w0 w R'→Hp B w0 w R1)∧Post (.tuple #[.agg xs.toArray, .agg ys.toArray,u]) R1,
   fun L R'=> ∃xs ys u,CellIs L R' p1 s1 xs∧CellIs L R' p2 s2 ys∧lk L r3=some u∧ ∃R1,(∀w,Hp B w0 w R'→Hp B w0 w R1)∧Post (.tuple #[.agg xs.toArray, .agg ys.toArray,u]) R1,fun _ _ _=>False⟩ (ini 0 args) R):Ct P f args.toArray B w0 R Post:=by
 intro w hw
 have hl':args.length≤fn.ntmps:=Nat.le_of_ble_eq_true hl
 have fin: ∀(L':Env) (R':List Row) (a':Act) (w':World),Sat fn.ntmps L' a'→Hp B w0 w' R'→(∃xs ys u,CellIs L' R' p1 s1 xs∧CellIs L' R' p2 s2 ys∧lk L' r3=some u∧ ∃R1,(∀w,Hp B w0 w R'→Hp B w0 w R1)∧Post (.tuple #[.agg xs.toArray, .agg ys.toArray,u]) R1)→
   ∃v R1,(results fn a'.tmps).run P w'= .ok v w'∧Hp B w0 w' R1∧Post v R1:=by
  rintro L' R' a' w' hs' hp' ⟨xs,ys,u,h1,h2,h3,R1,h8,h9⟩
  obtain⟨g,e,a1,b1,l1⟩:=h1.load hs' hp'
  obtain⟨g',e',a2,b2,l2⟩:=h2.load hs' hp'
  have hu3:=hs'.val r3 u h3
  have hrun:(results fn a'.tmps).run P w'= .ok (.tuple #[.agg xs.toArray, .agg ys.toArray,u]) w':=by
   simp[results,hr,a1,a2,hu3,asAddr,run_loadVar_row w' g e t1 xs.toArray (0,0) d1 b1 hu1 hd1 (by rw[hi1];simp[l1]),run_loadVar_row w' g' e' t2 ys.toArray (0,0) d2 b2 hu2 hd2 (by rw[hi2];simp[l2])]
  exact⟨_,R1,hrun,h8 _ hp',h9⟩
 refine calls_of_wp hf hb (wp_mono (wpIn_wide.1 (h _ w ⟨by simp;omega,rfl,fun t v ht=> ?_⟩ hw)) ?_)
 ·obtain ⟨_,h2⟩:=YF args 0 t v ht
  simp only[Nat.sub_zero] at h2
  have hlt:=(List.getElem?_eq_some_iff.1 h2).1
  rw[←h2]
  simp[Array.getElem?_append,hlt]
 ·intro e a' w' hq
  cases e with
  |normal=>
   obtain⟨L',R',hs',hp',hx⟩:=hq
   obtain⟨v,R1,hrun,hh,hpost⟩:=fin L' R' _ _ hs' hp' hx
   exact⟨hs'.defers,v,hrun,v,R1,rfl,hh,hpost⟩
  |ret=>
   obtain⟨L',R',hs',hp',hx⟩:=hq
   obtain⟨v,R1,hrun,hh,hpost⟩:=fin L' R' _ _ hs' hp' hx
   exact⟨hs'.defers,v,hrun,v,R1,rfl,hh,hpost⟩
  |exit id=>obtain⟨_,_,_,_,h⟩:=hq;exact h.elim
  |goto l=>exact hq
  |panic ch=>exact hq.elim
  |outgrown=>exact hq.elim
end
end Go.Eng

namespace Go.Proofs.YtdbebmmhdefgdaaGreat
open Go Go.Eng Go.Pure
open Tryz
set_option maxRecDepth 100000
theorem TN {B:Nat} {w0:World} {X R0:List Row} {g gc:Nat} {A_u At:Option Addr} {n_u c_u nt ct:Nat} {u:List Int} {p0 p1 p2 p3 ms tt ls sz:Int} {b0 b1 b2:Int} {t:List Int} (h_u:RdC B w0 R0 A_u n_u c_u 1 (ints .u8 u)) (hn_u:n_u=u.length) (hN:u.length≤1000000) (bh_u:aN u) (hu:u=[87,72,82,76,1]++([b0,b1,b2]++(bQ sz++t))) (hpa:0≤b0∧b0≤3) (hpb:(0≤b1∧b1≤2)∧(b2=0∨b2=1)∧(1≤sz∧sz≤16777216)):
  Ct Tryz.prog 89 #[.pointer (GG g)] B w0 (⟨87,10,(GG g),1,1,[.pointer (GG gc),I p0,I p1,I p2,I p3,I ms,I tt,I ls, .slice At nt ct, .slice none 0 0],false⟩::⟨146,1,(GG gc),1,1,[.slice A_u n_u c_u],false⟩::(X++R0)) (fun v R'=> ∃(A9:Option Addr) (c9:Nat),RdC B w0 R0 A9 (t).length c9 1 (ints .u8 (t))∧v= .bool true∧R'=⟨87,10,(GG g),1,1,[.pointer (GG gc),I b0,I b1,I b2,I sz,I ms,I tt,I ls, .slice At nt ct, .slice none 0 0],false⟩::⟨146,1,(GG gc),1,1,[.slice A9 ((t).length) c9],false⟩::(X++R0)):=by
 have h5:u.take (5:Int).toNat=[87,72,82,76,1]:=by rw[hu];rfl
 have hd5:u.drop (5:Int).toNat=[b0,b1,b2]++(bQ sz++t):=by rw[hu];rfl
 have hd8:(u.drop (5:Int).toNat).drop (3:Int).toNat=bQ sz++t:=by rw[hd5];rfl
 have hul:u.length=8+((bQ sz).length+t.length):=by rw[hu];simp only[List.length_append,List.length_cons,List.length_nil];omega
 refine(YO (R:=X++R0) (m:=(bQ sz).length) (RdC.right h_u X) hn_u hN bh_u h5 (by rw[hd5];rfl) (by omega) (by rw[hd8];exact sP.of ⟨by omega,by omega⟩ t) hpa hpb).mono fun v R' hv=> ?_
 obtain⟨rfl,rfl⟩:=hv
 have e:=RdC.fromI (l:=(bQ sz).length) (RdC.fromI (l:=(3:Int).toNat) (RdC.fromI (l:=(5:Int).toNat) h_u (by show 5≤n_u;omega)) (by show 3≤n_u-5;omega)) (by show(bQ sz).length≤n_u-5-3;omega)
 have hl:n_u-(5:Int).toNat-(3:Int).toNat-(bQ sz).length=t.length:=by show n_u-5-3-_=_;omega
 have hd:((u.drop (5:Int).toNat).drop (3:Int).toNat).drop (bQ sz).length=t:=by rw[hd8];exact List.drop_left
 rw[hl,hd] at e
 rw[hl]
 exact⟨_,_,e,Z,Z⟩
theorem NJ {B:Nat} {w0:World} {X R0:List Row} {g gc:Nat} {A_u At:Option Addr} {n_u c_u nt ct:Nat} {u:List Int} {p1 p2 p3 ms tt ls:Int} {s b t:List Int} {k:Int} (h_u:RdC B w0 R0 A_u n_u c_u 1 (ints .u8 u)) (hn_u:n_u=u.length) (hN:u.length≤1000000) (bh_u:aN u) (hn_t:nt=s.length) (hu:u=jC k p2 b t) (bh_b:aN b) (hbs:b.length≤100000∧s.length≤100000) (hf:((b.length:Nat):Int)≤p3∧((b.length:Nat):Int)≤ms-tt) (hp2:p2=0∨p2=1) (hb:(-1000000≤ms∧ms≤1000000)∧(0≤tt∧tt≤1000000)) (hk:k=0∨k=1∨k=2):
  Ct Tryz.prog 91 #[.pointer (GG g),I ((b.length:Nat):Int)] B w0 (⟨87,10,(GG g),1,1,[.pointer (GG gc),I k,I p1,I p2,I p3,I ms,I tt,I ls, .slice At nt ct, .slice none 0 0],false⟩::⟨146,1,(GG gc),1,1,[.slice A_u n_u c_u],false⟩::(ru 5 At nt ct s)::(X++R0)) (fun v R'=> ∃(A7:Option Addr) (c7:Nat),∃(A9:Option Addr) (c9:Nat),RdC B w0 R0 A9 (t).length c9 1 (ints .u8 (t))∧v=I 0∧R'=⟨87,10,(GG g),1,1,[.pointer (GG gc),I k,I p1,I p2,I p3,I ms,I (tt+((b.length:Nat):Int)),I ls, .slice A7 ((s++b).length) c7, .slice none 0 0],false⟩::⟨146,1,(GG gc),1,1,[.slice A9 ((t).length) c9],false⟩::(ru 5 A7 ((s++b).length) c7 (s++b))::(X++R0)):=by
 rcases hk with rfl|rfl|rfl
 ·exact ZW h_u hn_u hN bh_u hn_t hu bh_b hbs hf hp2 hb
 ·exact ZU h_u hn_u hN bh_u hn_t hu bh_b hbs hf hp2 hb
 ·exact ZR h_u hn_u hN bh_u hn_t hu bh_b hbs hf hp2 hb
theorem aHz {B:Nat} {w0:World} {R:List Row} {g gc:Nat} {At:Option Addr} {nt ct:Nat} {p1 p2 p3 ms tt ls n k:Int} (hf:n≤p3∧ms-tt<n) (hb:(-1000000≤ms∧ms≤1000000)∧(0≤tt∧tt≤1000000)) (hk:k=0∨k=1∨k=2):
  Ct Tryz.prog 91 #[.pointer (GG g),I n] B w0 (⟨87,10,(GG g),1,1,[.pointer (GG gc),I k,I p1,I p2,I p3,I ms,I tt,I ls, .slice At nt ct, .slice none 0 0],false⟩::R) (fun v R'=>v=I 3∧R'=⟨87,10,(GG g),1,1,[.pointer (GG gc),I k,I p1,I p2,I p3,I ms,I tt,I ls, .slice At nt ct, .slice none 0 0],false⟩::R):=by
 rcases hk with rfl|rfl|rfl
 ·exact ZX hf hb
 ·exact ZV hf hb
 ·exact ZT hf hb
set_option maxHeartbeats 4000000 in
theorem aKy {B:Nat} {w0:World} {X R0:List Row} {g gc:Nat} {A_u:Option Addr} {n_u c_u:Nat} {u:List Int} {q0 q1 q2 q3 ms:Int} {w:List Int} {k so od sz:Int} (h_u:RdC B w0 R0 A_u n_u c_u 1 (ints .u8 u)) (hn_u:n_u=u.length) (hN:u.length≤1000000) (bh_u:aN u) (hu:u=mP k so od sz w) (bh_w:aN w) (hS:w.length≤400) (hk:k=0∨k=1∨k=2) (hp:(0≤so∧so≤2)∧(od=0∨od=1)∧(1≤sz∧sz≤16777216)) (hms: -1000000≤ms∧ms≤1000000) (hfit:(w.length:Int)≤ms∨w.length=0):
  Ct Tryz.prog 51 #[.pointer (GG g)] B w0 (⟨87,10,(GG g),1,1,[.pointer (GG gc),I q0,I q1,I q2,I q3,I ms,I 0,I 0, .slice none 0 0, .slice none 0 0],false⟩::⟨146,1,(GG gc),1,1,[.slice A_u n_u c_u],false⟩::(ru 5 none 0 0 ([]))::(X++R0)) (fun v R'=> ∃(A7:Option Addr) (c7:Nat) (L7:Int) (A9:Option Addr) (c9:Nat),v=I 0∧R'=⟨87,10,(GG g),1,1,[.pointer (GG gc),I k,I so,I od,I sz,I ms,I ((w.length:Nat):Int),I L7, .slice A7 w.length c7, .slice none 0 0],false⟩::⟨146,1,(GG gc),1,1,[.slice A9 0 c9],false⟩::(ru 5 A7 w.length c7 w)::(X++R0)):=by
 subst hn_u
 have heb:=dX (t:=k) (so:=so) (o:=od) (sz:=sz) bh_w hS (by omega) (by omega) (by omega) hp.2.2
 have hu2:=hu
 rw[iP] at hu2
 have hul:=congrArg List.length hu2
 simp only[List.length_append,List.length_cons,List.length_nil] at hul
 have hlu:u.length≤400000:=by rw[hu];exact heb.2
 have hb00:=bh_u
 rw[hu2] at hb00
 have hb0:aN (fQ k od sz.toNat w 0):=aN.back (aN.back (aN.back hb00))
 refine fn1 Tryz.func51 Z Z Z ?_
 refine wq<|wg Z<|aA<|aG<|wq<|wm Z<|wa (aD bAe Z ((TN (X:=([(ru 5 none 0 0 ([]))]++X)) (R0:=R0) (b0:=k) (b1:=so) (b2:=od) (sz:=sz) (t:=fQ k od sz.toNat w 0) h_u Z (by omega) bh_u hu2 (by omega) hp))) ?_
 rintro _ _ ⟨A_1,c_2,hr_3,rfl,rfl⟩
 refine wy (dH Z)<|aA<|aQ Z<|aJ<|wq<|wg Z<|aA<|aG<|aI ?_
 refine CY (fun(kk:Nat) (Ac:Option Addr) (cc:Nat) (At:Option Addr) (nt:Nat) (ct:Nat) (s:List Int) (tt:Int) (ls:Int)=>[(0, .pointer (GG g)),(3, .bool false)]) (fun(kk:Nat) (Ac:Option Addr) (cc:Nat) (At:Option Addr) (nt:Nat) (ct:Nat) (s:List Int) (tt:Int) (ls:Int)=>(⟨87,10,(GG g),1,1,[.pointer (GG gc),I k,I so,I od,I sz,I ms,I tt,I ls, .slice At nt ct, .slice none 0 0],false⟩::⟨146,1,(GG gc),1,1,[.slice Ac ((fQ k od sz.toNat w kk).length) cc],false⟩::(ru 5 At nt ct s)::(X++R0))) (fun(kk:Nat) (Ac:Option Addr) (cc:Nat) (At:Option Addr) (nt:Nat) (ct:Nat) (s:List Int) (tt:Int) (ls:Int)=>(kk≤chK w.length sz.toNat)∧(RdC B w0 R0 Ac (fQ k od sz.toNat w kk).length cc 1 (ints .u8 (fQ k od sz.toNat w kk)))∧((fQ k od sz.toNat w kk).length≤400000)∧(aN (fQ k od sz.toNat w kk))∧(s=w.take (kk*sz.toNat))∧(nt=s.length)∧(tt=(s.length:Int))∧(ls=0∨ls=sz∨w.length≤kk*sz.toNat)) (fun(kk:Nat) (Ac:Option Addr) (cc:Nat) (At:Option Addr) (nt:Nat) (ct:Nat) (s:List Int) (tt:Int) (ls:Int)=>(chK w.length sz.toNat-kk)) ?_ ?_
 ·exact⟨0,A_1,c_2,none,0,0,[],0,0,⟨(Nat.zero_le _),(hr_3),(by omega),(hb0),(by rw[Nat.zero_mul];rfl),(Z),(Z),(.inl Z)⟩,(G2 Z Z),fun _ h=>h⟩
 intro kk Ac cc At nt ct s tt ls ⟨hkk,hev,hln,hby,hs,hnt,htt,hls⟩
 have hkn:(kk+1)*sz.toNat=kk*sz.toNat+sz.toNat:=by rw[Nat.add_mul,Nat.one_mul]
 have hcl:=VI w sz.toNat kk
 have hkc:=aPh (m:=w.length) (n:=sz.toNat) (k:=kk) (by omega)
 have hsl:s.length=min (kk*sz.toNat) w.length:=by rw[hs,List.length_take]
 refine aI<|wq<|wm Z ?_
 refine(Classical.em (kk<chK w.length sz.toNat)).elim (fun hkk2=> ?_) (fun hkk2=> ?_)
 ·have hlt:kk+1≤chK w.length sz.toNat:=hkk2
  have hwk:=hkc.1 hkk2
  have hrn:=FI (t:=k) (o:=od) hkk2
  have hb1:=hby
  rw[hrn] at hb1
  have hl1:=congrArg List.length hrn
  rw[List.length_append] at hl1
  have hb2:aN (fQ k od sz.toNat w (kk+1)):=aN.back (x:=(jJ k (jF w sz.toNat kk)).1++(bQ (dJ (jJ k (jF w sz.toNat kk)).2 od).length++(iE (bv (jP (jF w sz.toNat kk)))++dJ (jJ k (jF w sz.toNat kk)).2 od))) (by have h:=aN.back hb1;unfold jC at h;simpa only[List.append_assoc] using h)
  have hl2:(fQ k od sz.toNat w (kk+1)).length≤(jC k od (jF w sz.toNat kk) (fQ k od sz.toNat w (kk+1))).length:=by unfold jC;simp only[List.length_append];omega
  refine wa (aD PI Z ((pW (X:=([(ru 5 At nt ct s)]++X)) (R0:=R0) ((((jF w sz.toNat kk).length:Nat):Int)) (jC k od (jF w sz.toNat kk) (fQ k od sz.toNat w (kk+1))) hev Z (by omega) hby (by omega) hrn))) ?_
  rintro _ _ ⟨A_4,c_5,hr_6,rfl,rfl⟩
  refine wm Z<|wX Z Z<|wX Z Z<|wg Z<|wg Z<|aA<|aG<|wq<|wm Z<|wy (dH Z)<|aA<|aQ Z<|aJ<|aG ?_
  refine wq<|wm Z<|wy (Yl.f (dI Z Z) (by omega))<|aA<|aQ Z<|aJ ?_
  refine uU [(0, .pointer (GG g)),(3, .bool false),(4,I (((jF w sz.toNat kk).length:Nat):Int))] (⟨87,10,(GG g),1,1,[.pointer (GG gc),I k,I so,I od,I sz,I ms,I tt,I ls, .slice At nt ct, .slice none 0 0],false⟩::⟨146,1,(GG gc),1,1,[.slice A_4 ((jC k od (jF w sz.toNat kk) (fQ k od sz.toNat w (kk+1))).length) c_5],false⟩::(ru 5 At nt ct s)::(X++R0)) ?_ ?_
  ·refine bT mixed<|wD 0 Z (aM Z)<|wD 1 Z (aM Z)<|aY 2 Z (by kernel_rfl) Z Z Z (aM Z)<|aY 3 Z (by kernel_rfl) Z Z Z (aF Z)<|aY 4 Z (by kernel_rfl) Z Z Z (aC (off:=7) (m:=7) underlying87 Z sz3 Z Z Z)<|aY 5 Z (by kernel_rfl) Z Z Z (aK (rdr 0 Z) underlying3 Z Z Z)<|aY 6 Z (by kernel_rfl) Z Z Z (dR Z Z)<|aY 7 Z (by kernel_rfl) Z Z Z (aM Z)<|nK 28 Z (fun hc1=> ?_) (fun hc1=> ?_)
   ·refine aY 8 Z (by kernel_rfl) Z Z Z (aM Z)<|aY 9 Z (by kernel_rfl) Z Z Z (aF Z)<|aY 10 Z (by kernel_rfl) Z Z Z (aC (off:=7) (m:=7) underlying87 Z sz3 Z Z Z)<|aY 11 Z (by kernel_rfl) Z Z Z (aK (rdr 0 Z) underlying3 Z Z Z)<|aY 12 Z (by kernel_rfl) Z Z Z (aM Z)<|aY 13 Z (by kernel_rfl) Z Z Z (aF Z)<|aY 14 Z (by kernel_rfl) Z Z Z (aC (off:=1) (m:=1) underlying87 Z gL Z Z Z)<|aY 15 Z (by kernel_rfl) Z Z Z (aC (off:=3) (m:=4) underlying27 Z sz3 Z Z Z)<|aY 16 Z (by kernel_rfl) Z Z Z (aK (rdr 0 Z) underlying3 Z Z Z)<|aY 17 Z (by kernel_rfl) Z Z Z (Yl.f (fG Z Z) (by omega))<|aY 18 Z (by kernel_rfl) Z Z Z (aT Z Z)<|wD 19 Z (aP Z Z)<|wD 20 Z (bV Z)<|bP (by kernel_rfl) ?_
    exact⟨(G3 Z Z Z),fun _ h=>h⟩
   ·refine bJ 8 Z (by kernel_rfl) Z Z Z Z<|bJ 9 Z (by kernel_rfl) Z Z Z Z<|bJ 10 Z (by kernel_rfl) Z Z Z Z<|bJ 11 Z (by kernel_rfl) Z Z Z Z<|bJ 12 Z (by kernel_rfl) Z Z Z Z<|bJ 13 Z (by kernel_rfl) Z Z Z Z<|bJ 14 Z (by kernel_rfl) Z Z Z Z<|bJ 15 Z (by kernel_rfl) Z Z Z Z<|bJ 16 Z (by kernel_rfl) Z Z Z Z<|bJ 17 Z (by kernel_rfl) Z Z Z Z<|aY 18 Z (by kernel_rfl) Z Z Z (aP Z Z)<|wD 19 Z (aP Z Z)<|wD 20 Z (bV Z)<|bP (by kernel_rfl) ?_
    exact⟨(G3 Z Z Z),fun _ h=>h⟩
  refine aG<|wq<|wm Z<|wm Z<|wa (aD aYg Z ((NJ (X:=([]++X)) (R0:=R0) (b:=(jF w sz.toNat kk)) (t:=fQ k od sz.toNat w (kk+1)) hr_6 Z (by omega) (aN.back hb1) hnt Z (JA bh_w _ _) (by omega) (by omega) hp.2.1 (by omega) hk))) ?_
  rintro _ _ ⟨A_10,c_11,A_7,c_8,hr_9,rfl,rfl⟩
  refine wg Z<|aA<|wq<|wm Z<|wy (Yl.f (iT Z Z) (by decide))<|aA<|aQ Z<|aJ<|aL<|wm Z<|wm Z<|wy (aF Z)<|wy (aC (off:=7) (m:=7) underlying87 Z sz3 Z Z Z)<|bY (bF 0 Z Z Z sz3 Z Z Z Z (Nat.le_of_ble_eq_true Z)) ?_
  rintro _ _ rfl
  refine aA ?_
  exact⟨(kk+1),A_7,c_8,A_10,(s++(jF w sz.toNat kk)).length,c_11,s++(jF w sz.toNat kk),tt+((((jF w sz.toNat kk)).length:Nat):Int),(((jF w sz.toNat kk).length:Nat):Int),⟨(hlt),(hr_9),(by omega),(hb2),(by rw[NH,←hs]),(Z),(by rw[List.length_append];omega),(by omega)⟩,(by omega),(G2 Z Z),fun _ h=>h⟩
 ·have hend:=zW (t:=k) (o:=od) (n:=sz.toNat) (u:=w) (k:=kk) (by omega)
  have hwk: ¬kk*sz.toNat<w.length:=fun h=>hkk2 (hkc.2 h)
  have hsw:s=w:=by rw[hs];exact List.take_of_length_le (by omega)
  have hbe:aN (bQ 0++bQ (w.length:Int)):=by rw[←hend];exact hby
  refine wa (aD PI Z ((pW (X:=([(ru 5 At nt ct s)]++X)) (R0:=R0) (0) (bQ (w.length:Int)) hev Z (by omega) hby (by omega) hend))) ?_
  rintro _ _ ⟨A_12,c_13,hr_14,rfl,rfl⟩
  refine wm Z<|wX Z Z<|wX Z Z<|wg Z<|wg Z<|aA<|aG<|wq<|wm Z<|wy (dH Z)<|aA<|aQ Z<|aJ<|aG ?_
  refine wq<|wm Z<|wy (Yl.t (dI Z Z) (by decide))<|aA<|dB Z<|aZ<|wq<|wm Z<|wa (aD PI Z ((pW (X:=([(ru 5 At nt ct s)]++X)) (R0:=R0) ((w.length:Int)) ([]) hr_14 Z (by have:=congrArg List.length hend;rw[List.length_append] at this;omega) (aN.back hbe) (by omega) (List.append_nil _).symm))) ?_
  rintro _ _ ⟨A_15,c_16,hr_17,rfl,rfl⟩
  refine wm Z<|wX Z Z<|wX Z Z<|wg Z<|wg Z<|aA<|aG<|wq<|wm Z<|wy (dH Z)<|wm Z<|aB Z Z<|wm Z<|aB Z Z ?_
  refine wm Z<|aB Z Z<|wy (aF Z)<|aB Z Z<|wy (aC (off:=6) (m:=6) underlying87 Z sz3 Z Z Z)<|aB Z Z<|wy (aK (rdr 0 Z) underlying3 Z Z Z)<|aB Z Z<|wy (Yl.f (iT Z Z) (by rw[←hsw];omega)) ?_
  refine wy (aP Z Z)<|wm Z<|aB Z Z<|wm Z<|aB Z Z<|wy (aF Z)<|aB Z Z<|wy (aC (off:=0) (m:=0) underlying87 Z WW Z Z Z)<|aB Z Z<|wy (aK (rdr 0 Z) underlying84 Z Z Z)<|aB Z Z<|wa (aD bAd Z (Ct.pick [1,0,2] 3 (by decide) Z (TG (k:=0) (R:=([⟨87,10,(GG g),1,1,[.pointer (GG gc),I k,I so,I od,I sz,I ms,I tt,I ls, .slice At nt ct, .slice none 0 0],false⟩,(ru 5 At nt ct s)]++X)++R0) (RdC.right hr_17 ([⟨87,10,(GG g),1,1,[.pointer (GG gc),I k,I so,I od,I sz,I ms,I tt,I ls, .slice At nt ct, .slice none 0 0],false⟩,(ru 5 At nt ct s)]++X)) Z))) ?_
  rintro _ _ ⟨rfl,rfl⟩
  refine aB Z Z<|wy (Yl.f (dR Z Z) (by decide))<|wy (aP Z Z)<|wm Z<|aB Z Z<|wm Z<|aB Z Z<|wm Z<|aO Z Z Z Z<|aO Z Z Z Z<|aO Z Z Z Z<|aO Z Z Z Z<|aO Z Z Z Z<|aO Z Z Z Z<|aB Z Z ?_
  refine wy (aP Z Z)<|wy (aP Z Z)<|aA<|aQ Z<|aJ<|wq<|wg Z<|aA<|bA [1,0,2] 3 (by decide) Z ?_
  refine⟨_,Z,?_⟩
  rw[htt,hnt,hsw]
  exact⟨_,_,_,_,_,Z,Z⟩
set_option maxHeartbeats 4000000 in
theorem aKz {B:Nat} {w0:World} {X R0:List Row} {g gc:Nat} {A_u:Option Addr} {n_u c_u:Nat} {u:List Int} {q0 q1 q2 q3 ms:Int} {w:List Int} {k so od sz:Int} (h_u:RdC B w0 R0 A_u n_u c_u 1 (ints .u8 u)) (hn_u:n_u=u.length) (hN:u.length≤1000000) (bh_u:aN u) (hu:u=mP k so od sz w) (bh_w:aN w) (hS:w.length≤400) (hk:k=0∨k=1∨k=2) (hp:(0≤so∧so≤2)∧(od=0∨od=1)∧(1≤sz∧sz≤16777216)) (hms: -1000000≤ms∧ms≤1000000) (hfit:1≤w.length∧ms<w.length):
  Ct Tryz.prog 51 #[.pointer (GG g)] B w0 (⟨87,10,(GG g),1,1,[.pointer (GG gc),I q0,I q1,I q2,I q3,I ms,I 0,I 0, .slice none 0 0, .slice none 0 0],false⟩::⟨146,1,(GG gc),1,1,[.slice A_u n_u c_u],false⟩::(ru 5 none 0 0 ([]))::(X++R0)) (fun v R'=>v=I 3∧R'=X++R0):=by
 subst hn_u
 have heb:=dX (t:=k) (so:=so) (o:=od) (sz:=sz) bh_w hS (by omega) (by omega) (by omega) hp.2.2
 have hu2:=hu
 rw[iP] at hu2
 have hul:=congrArg List.length hu2
 simp only[List.length_append,List.length_cons,List.length_nil] at hul
 have hlu:u.length≤400000:=by rw[hu];exact heb.2
 have hb00:=bh_u
 rw[hu2] at hb00
 have hb0:aN (fQ k od sz.toNat w 0):=aN.back (aN.back (aN.back hb00))
 refine fn1 Tryz.func51 Z Z Z ?_
 refine wq<|wg Z<|aA<|aG<|wq<|wm Z<|wa (aD bAe Z ((TN (X:=([(ru 5 none 0 0 ([]))]++X)) (R0:=R0) (b0:=k) (b1:=so) (b2:=od) (sz:=sz) (t:=fQ k od sz.toNat w 0) h_u Z (by omega) bh_u hu2 (by omega) hp))) ?_
 rintro _ _ ⟨A_1,c_2,hr_3,rfl,rfl⟩
 refine wy (dH Z)<|aA<|aQ Z<|aJ<|wq<|wg Z<|aA<|aG<|aI ?_
 refine CY (fun(kk:Nat) (Ac:Option Addr) (cc:Nat) (At:Option Addr) (nt:Nat) (ct:Nat) (s:List Int) (tt:Int) (ls:Int)=>[(0, .pointer (GG g)),(3, .bool false)]) (fun(kk:Nat) (Ac:Option Addr) (cc:Nat) (At:Option Addr) (nt:Nat) (ct:Nat) (s:List Int) (tt:Int) (ls:Int)=>(⟨87,10,(GG g),1,1,[.pointer (GG gc),I k,I so,I od,I sz,I ms,I tt,I ls, .slice At nt ct, .slice none 0 0],false⟩::⟨146,1,(GG gc),1,1,[.slice Ac ((fQ k od sz.toNat w kk).length) cc],false⟩::(ru 5 At nt ct s)::(X++R0))) (fun(kk:Nat) (Ac:Option Addr) (cc:Nat) (At:Option Addr) (nt:Nat) (ct:Nat) (s:List Int) (tt:Int) (ls:Int)=>(kk≤chK w.length sz.toNat)∧(RdC B w0 R0 Ac (fQ k od sz.toNat w kk).length cc 1 (ints .u8 (fQ k od sz.toNat w kk)))∧((fQ k od sz.toNat w kk).length≤400000)∧(aN (fQ k od sz.toNat w kk))∧(s=w.take (kk*sz.toNat))∧(nt=s.length)∧(tt=(s.length:Int))∧(ls=0∨ls=sz∨w.length≤kk*sz.toNat)∧(kk=0∨tt≤ms)) (fun(kk:Nat) (Ac:Option Addr) (cc:Nat) (At:Option Addr) (nt:Nat) (ct:Nat) (s:List Int) (tt:Int) (ls:Int)=>(chK w.length sz.toNat-kk)) ?_ ?_
 ·exact⟨0,A_1,c_2,none,0,0,[],0,0,⟨(Nat.zero_le _),(hr_3),(by omega),(hb0),(by rw[Nat.zero_mul];rfl),(Z),(Z),(.inl Z),(.inl Z)⟩,(G2 Z Z),fun _ h=>h⟩
 intro kk Ac cc At nt ct s tt ls ⟨hkk,hev,hln,hby,hs,hnt,htt,hls,hno2⟩
 have hkn:(kk+1)*sz.toNat=kk*sz.toNat+sz.toNat:=by rw[Nat.add_mul,Nat.one_mul]
 have hcl:=VI w sz.toNat kk
 have hkc:=aPh (m:=w.length) (n:=sz.toNat) (k:=kk) (by omega)
 have hsl:s.length=min (kk*sz.toNat) w.length:=by rw[hs,List.length_take]
 refine aI<|wq<|wm Z ?_
 refine(Classical.em (kk<chK w.length sz.toNat)).elim (fun hkk2=> ?_) (fun hkk2=> ?_)
 ·have hlt:kk+1≤chK w.length sz.toNat:=hkk2
  have hwk:=hkc.1 hkk2
  have hrn:=FI (t:=k) (o:=od) hkk2
  have hb1:=hby
  rw[hrn] at hb1
  have hl1:=congrArg List.length hrn
  rw[List.length_append] at hl1
  have hb2:aN (fQ k od sz.toNat w (kk+1)):=aN.back (x:=(jJ k (jF w sz.toNat kk)).1++(bQ (dJ (jJ k (jF w sz.toNat kk)).2 od).length++(iE (bv (jP (jF w sz.toNat kk)))++dJ (jJ k (jF w sz.toNat kk)).2 od))) (by have h:=aN.back hb1;unfold jC at h;simpa only[List.append_assoc] using h)
  have hl2:(fQ k od sz.toNat w (kk+1)).length≤(jC k od (jF w sz.toNat kk) (fQ k od sz.toNat w (kk+1))).length:=by unfold jC;simp only[List.length_append];omega
  refine wa (aD PI Z ((pW (X:=([(ru 5 At nt ct s)]++X)) (R0:=R0) ((((jF w sz.toNat kk).length:Nat):Int)) (jC k od (jF w sz.toNat kk) (fQ k od sz.toNat w (kk+1))) hev Z (by omega) hby (by omega) hrn))) ?_
  rintro _ _ ⟨A_4,c_5,hr_6,rfl,rfl⟩
  refine wm Z<|wX Z Z<|wX Z Z<|wg Z<|wg Z<|aA<|aG<|wq<|wm Z<|wy (dH Z)<|aA<|aQ Z<|aJ<|aG ?_
  refine wq<|wm Z<|wy (Yl.f (dI Z Z) (by omega))<|aA<|aQ Z<|aJ ?_
  refine uU [(0, .pointer (GG g)),(3, .bool false),(4,I (((jF w sz.toNat kk).length:Nat):Int))] (⟨87,10,(GG g),1,1,[.pointer (GG gc),I k,I so,I od,I sz,I ms,I tt,I ls, .slice At nt ct, .slice none 0 0],false⟩::⟨146,1,(GG gc),1,1,[.slice A_4 ((jC k od (jF w sz.toNat kk) (fQ k od sz.toNat w (kk+1))).length) c_5],false⟩::(ru 5 At nt ct s)::(X++R0)) ?_ ?_
  ·refine bT mixed<|wD 0 Z (aM Z)<|wD 1 Z (aM Z)<|aY 2 Z (by kernel_rfl) Z Z Z (aM Z)<|aY 3 Z (by kernel_rfl) Z Z Z (aF Z)<|aY 4 Z (by kernel_rfl) Z Z Z (aC (off:=7) (m:=7) underlying87 Z sz3 Z Z Z)<|aY 5 Z (by kernel_rfl) Z Z Z (aK (rdr 0 Z) underlying3 Z Z Z)<|aY 6 Z (by kernel_rfl) Z Z Z (dR Z Z)<|aY 7 Z (by kernel_rfl) Z Z Z (aM Z)<|nK 28 Z (fun hc1=> ?_) (fun hc1=> ?_)
   ·refine aY 8 Z (by kernel_rfl) Z Z Z (aM Z)<|aY 9 Z (by kernel_rfl) Z Z Z (aF Z)<|aY 10 Z (by kernel_rfl) Z Z Z (aC (off:=7) (m:=7) underlying87 Z sz3 Z Z Z)<|aY 11 Z (by kernel_rfl) Z Z Z (aK (rdr 0 Z) underlying3 Z Z Z)<|aY 12 Z (by kernel_rfl) Z Z Z (aM Z)<|aY 13 Z (by kernel_rfl) Z Z Z (aF Z)<|aY 14 Z (by kernel_rfl) Z Z Z (aC (off:=1) (m:=1) underlying87 Z gL Z Z Z)<|aY 15 Z (by kernel_rfl) Z Z Z (aC (off:=3) (m:=4) underlying27 Z sz3 Z Z Z)<|aY 16 Z (by kernel_rfl) Z Z Z (aK (rdr 0 Z) underlying3 Z Z Z)<|aY 17 Z (by kernel_rfl) Z Z Z (Yl.f (fG Z Z) (by omega))<|aY 18 Z (by kernel_rfl) Z Z Z (aT Z Z)<|wD 19 Z (aP Z Z)<|wD 20 Z (bV Z)<|bP (by kernel_rfl) ?_
    exact⟨(G3 Z Z Z),fun _ h=>h⟩
   ·refine bJ 8 Z (by kernel_rfl) Z Z Z Z<|bJ 9 Z (by kernel_rfl) Z Z Z Z<|bJ 10 Z (by kernel_rfl) Z Z Z Z<|bJ 11 Z (by kernel_rfl) Z Z Z Z<|bJ 12 Z (by kernel_rfl) Z Z Z Z<|bJ 13 Z (by kernel_rfl) Z Z Z Z<|bJ 14 Z (by kernel_rfl) Z Z Z Z<|bJ 15 Z (by kernel_rfl) Z Z Z Z<|bJ 16 Z (by kernel_rfl) Z Z Z Z<|bJ 17 Z (by kernel_rfl) Z Z Z Z<|aY 18 Z (by kernel_rfl) Z Z Z (aP Z Z)<|wD 19 Z (aP Z Z)<|wD 20 Z (bV Z)<|bP (by kernel_rfl) ?_
    exact⟨(G3 Z Z Z),fun _ h=>h⟩
  refine aG<|wq<|wm Z<|wm Z ?_
  refine(Classical.em (tt+(((jF w sz.toNat kk).length:Nat):Int)≤ms)).elim (fun hfit=> ?_) (fun hfit=> ?_)
  ·refine wa (aD aYg Z ((NJ (X:=([]++X)) (R0:=R0) (b:=(jF w sz.toNat kk)) (t:=fQ k od sz.toNat w (kk+1)) hr_6 Z (by omega) (aN.back hb1) hnt Z (JA bh_w _ _) (by omega) (by omega) hp.2.1 (by omega) hk))) ?_
   rintro _ _ ⟨A_10,c_11,A_7,c_8,hr_9,rfl,rfl⟩
   refine wg Z<|aA<|wq<|wm Z<|wy (Yl.f (iT Z Z) (by decide))<|aA<|aQ Z<|aJ<|aL<|wm Z<|wm Z<|wy (aF Z)<|wy (aC (off:=7) (m:=7) underlying87 Z sz3 Z Z Z)<|bY (bF 0 Z Z Z sz3 Z Z Z Z (Nat.le_of_ble_eq_true Z)) ?_
   rintro _ _ rfl
   refine aA ?_
   exact⟨(kk+1),A_7,c_8,A_10,(s++(jF w sz.toNat kk)).length,c_11,s++(jF w sz.toNat kk),tt+((((jF w sz.toNat kk)).length:Nat):Int),(((jF w sz.toNat kk).length:Nat):Int),⟨(hlt),(hr_9),(by omega),(hb2),(by rw[NH,←hs]),(Z),(by rw[List.length_append];omega),(by omega),(.inr (by omega))⟩,(by omega),(G2 Z Z),fun _ h=>h⟩
  ·refine wa (aD aYg Z (Ct.at 0 Z (aHz (by omega) (by omega) hk))) ?_
   rintro _ _ ⟨rfl,rfl⟩
   refine wg Z<|aA<|wq<|wm Z<|wy (Yl.t (iT Z Z) (by decide))<|aA<|dB Z<|wq<|wm Z<|wg Z<|aA<|bX (R1:=(X++R0)) (fun _ h=>h.right (R':=[_,_,_])) ?_
   exact⟨_,Z,Z,Z⟩
 ·have hend:=zW (t:=k) (o:=od) (n:=sz.toNat) (u:=w) (k:=kk) (by omega)
  have hwk: ¬kk*sz.toNat<w.length:=fun h=>hkk2 (hkc.2 h)
  have hsw:s=w:=by rw[hs];exact List.take_of_length_le (by omega)
  have hbe:aN (bQ 0++bQ (w.length:Int)):=by rw[←hend];exact hby
  refine wa (aD PI Z ((pW (X:=([(ru 5 At nt ct s)]++X)) (R0:=R0) (0) (bQ (w.length:Int)) hev Z (by omega) hby (by omega) hend))) ?_
  rintro _ _ ⟨A_12,c_13,hr_14,rfl,rfl⟩
  refine wm Z<|wX Z Z<|wX Z Z<|wg Z<|wg Z<|aA<|aG<|wq<|wm Z<|wy (dH Z)<|aA<|aQ Z<|aJ<|aG ?_
  refine wq<|wm Z<|wy (Yl.t (dI Z Z) (by decide))<|aA<|dB Z<|aZ<|wq<|wm Z<|wa (aD PI Z ((pW (X:=([(ru 5 At nt ct s)]++X)) (R0:=R0) ((w.length:Int)) ([]) hr_14 Z (by have:=congrArg List.length hend;rw[List.length_append] at this;omega) (aN.back hbe) (by omega) (List.append_nil _).symm))) ?_
  rintro _ _ ⟨A_15,c_16,hr_17,rfl,rfl⟩
  refine wm Z<|wX Z Z<|wX Z Z<|wg Z<|wg Z<|aA<|aG<|wq<|wm Z<|wy (dH Z)<|wm Z<|aB Z Z<|wm Z<|aB Z Z ?_
  refine wm Z<|aB Z Z<|wy (aF Z)<|aB Z Z<|wy (aC (off:=6) (m:=6) underlying87 Z sz3 Z Z Z)<|aB Z Z<|wy (aK (rdr 0 Z) underlying3 Z Z Z)<|aB Z Z<|wy (Yl.f (iT Z Z) (by rw[←hsw];omega)) ?_
  refine wy (aP Z Z)<|wm Z<|aB Z Z<|wm Z<|aB Z Z<|wy (aF Z)<|aB Z Z<|wy (aC (off:=0) (m:=0) underlying87 Z WW Z Z Z)<|aB Z Z<|wy (aK (rdr 0 Z) underlying84 Z Z Z)<|aB Z Z<|wa (aD bAd Z (Ct.pick [1,0,2] 3 (by decide) Z (TG (k:=0) (R:=([⟨87,10,(GG g),1,1,[.pointer (GG gc),I k,I so,I od,I sz,I ms,I tt,I ls, .slice At nt ct, .slice none 0 0],false⟩,(ru 5 At nt ct s)]++X)++R0) (RdC.right hr_17 ([⟨87,10,(GG g),1,1,[.pointer (GG gc),I k,I so,I od,I sz,I ms,I tt,I ls, .slice At nt ct, .slice none 0 0],false⟩,(ru 5 At nt ct s)]++X)) Z))) ?_
  rintro _ _ ⟨rfl,rfl⟩
  refine aB Z Z<|wy (Yl.f (dR Z Z) (by decide))<|wy (aP Z Z)<|wm Z<|aB Z Z<|wm Z<|aB Z Z<|wm Z<|aO Z Z Z Z<|aO Z Z Z Z<|aO Z Z Z Z<|aO Z Z Z Z<|aO Z Z Z Z<|aO Z Z Z Z<|aB Z Z ?_
  refine wy (aP Z Z)<|wy (aP Z Z)<|aA<|aQ Z<|aJ<|wq<|wg Z<|aA ?_
  exfalso
  have hw1:=congrArg List.length hsw
  rcases hno2 with e|e
  ·subst e;rw[Nat.zero_mul] at hwk;omega
  ·omega
end Go.Proofs.YtdbebmmhdefgdaaGreat

namespace Go.Proofs.YtdbebmmhdefgdaaGreat
open Go Go.Eng Go.Pure
open Tryz
set_option maxRecDepth 100000
set_option maxHeartbeats 1000000 in
theorem EA {w_:World} {A_u:Option Addr} {n_u c_u:Nat} {u:List Int} {lim:Int} {w:List Int} {k so od sz:Int} (h_u:Rd w_ A_u n_u c_u 1 (ints .u8 u)) (bh_u:aN u) (hN:u.length≤1000000) (hu:u=mP k so od sz w) (bh_w:aN w) (hS:w.length≤400) (hk:k=0∨k=1∨k=2) (hp:(0≤so∧so≤2)∧(od=0∨od=1)∧(1≤sz∧sz≤16777216)) (hlim: -1000≤lim∧lim≤1000000) (hfit:(w.length:Int)≤lim∨w.length=0):
  Ct Tryz.prog 19 #[.slice A_u n_u c_u,I lim] w_.heap.size w_ [] (fun v R'=> ∃A c,v= .tuple #[.agg #[.slice A w.length c, .slice none 0 0], .agg #[I k,I so,I od,I sz],I 0]∧R'=[(ru 5 A w.length c w)]):=by
 obtain rfl:=h_u.lenI
 refine aVi Tryz.func19 Z Z Z underlying25 Z rT underlying27 Z gL ?_
 have m_u:=h_u.max
 refine wq<|wa (fA (sz:=2) WF Z) ?_
 rintro _ _ ⟨g_1,rfl,rfl⟩
 refine wa (fA (sz:=4) WE Z) ?_
 rintro _ _ ⟨g_2,rfl,rfl⟩
 refine wg Z<|aA<|wq<|wm Z<|wa (aD bAh Z (Ct.fresh (fun w hw=>yV ((h_u.c _) w hw) hN))) ?_
 rintro _ _ ⟨_,rfl,g_3,A_4,c_5,rfl,rfl⟩
 refine wm Z<|wy (sQ Z Z)<|wy (dS (v:= .agg #[.pointer (GG g_3),I 0,I 0,I 0,I 0,I (min lim 100000),I 0,I 0, .slice none 0 0, .slice none 0 0]) Z (fun w=>by kernel_rfl))<|wa (dV (sz:=10) rfl rfl) ?_
 rintro _ _ ⟨g_6,rfl,rfl⟩
 refine dK (R1:=[(ru 5 none 0 0 ([])),⟨87,10,(GG g_6),1,1,[.pointer (GG g_3),I 0,I 0,I 0,I 0,I (min lim 100000),I 0,I 0, .slice none 0 0, .slice none 0 0],false⟩,⟨146,1,(GG g_3),1,1,[.slice A_4 ((u).length) c_5],false⟩,(ru 5 A_4 ((u).length) c_5 u),⟨27,4,(GG g_2),1,1,[I 0,I 0,I 0,I 0],false⟩,⟨25,2,(GG g_1),1,1,[.slice none 0 0, .slice none 0 0],false⟩]) (Sub.refl _) (fun _ h=>h.nil 5 1)<|wg Z<|aA<|aG<|wq<|wm Z<|wa (aD bAg Z (Ct.pick [1,2,0,3,4,5] 99 (by decide) Z (aKy (X:=[]) (R0:=[(ru 5 A_4 ((u).length) c_5 u),⟨27,4,(GG g_2),1,1,[I 0,I 0,I 0,I 0],false⟩,⟨25,2,(GG g_1),1,1,[.slice none 0 0, .slice none 0 0],false⟩]) (rdr 0 Z) Z hN bh_u hu bh_w hS hk hp (by omega) (by omega)))) ?_
 rintro _ _ ⟨A_7,c_8,L_9,A_10,c_11,rfl,rfl⟩
 refine wg Z<|aA<|wq<|wm Z<|wy (Yl.f (iT Z Z) (by decide))<|aA<|aQ Z<|aJ<|aG<|aQl (Rc:=[⟨87,10,(GG g_6),1,1,[.pointer (GG g_3),I k,I so,I od,I sz,I (min lim 100000),I ((w.length:Nat):Int),I L_9, .slice A_7 w.length c_8, .slice none 0 0],false⟩]) mixed (fun _ h=>h.sel [0] (by decide) Z) ?_
 refine PM 0 Z (by kernel_rfl) Z (aM Z) ?_
 refine PM 1 Z (by kernel_rfl) Z (aF Z) ?_
 refine PM 2 Z (by kernel_rfl) Z (aC (off:=8) (m:=8) underlying87 Z rT Z Z Z) ?_
 refine PM 3 Z (by kernel_rfl) Z (dZ (vs:=[.slice A_7 w.length c_8, .slice none 0 0]) (rdr 0 Z) underlying25 Z rT Z Z (Nat.le_of_ble_eq_true Z) Z) ?_
 refine PM 4 Z (by kernel_rfl) Z (aM Z) ?_
 refine PM 5 Z (by kernel_rfl) Z (aF Z) ?_
 refine PM 6 Z (by kernel_rfl) Z (aC (off:=1) (m:=1) underlying87 Z gL Z Z Z) ?_
 refine PM 7 Z (by kernel_rfl) Z (dZ (vs:=[I k,I so,I od,I sz]) (rdr 0 Z) underlying27 Z gL Z Z (Nat.le_of_ble_eq_true Z) Z) ?_
 refine aPj 8 (by kernel_rfl) ?_
 refine bDe 8 Z (dQ (vs:=[.slice A_7 w.length c_8, .slice none 0 0]) 5 Z rT Z Z Z (by intro v hv;simp at hv;rcases hv with rfl|rfl<;>rfl) Z) ?_
 rintro _ _ rfl
 refine⟨fun _ h=>h.sel [0] (by decide) Z,?_⟩
 refine aPj 9 (by kernel_rfl) ?_
 refine bDe 9 Z (dQ (vs:=[I k,I so,I od,I sz]) 4 Z gL Z Z Z (by intro v hv;simp at hv;rcases hv with rfl|rfl|rfl|rfl<;>rfl) Z) ?_
 rintro _ _ rfl
 refine⟨fun _ h=>h.sel [0] (by decide) Z,?_⟩
 refine PM 10 Z (by kernel_rfl) Z (bV Z) ?_
 refine aYp (by kernel_rfl) ?_
 refine dL ?_
 refine⟨_,_,_,⟨_,5,_,Z,Z,Z,Z,Z,Z,Z,Z⟩,⟨_,4,_,Z,Z,Z,Z,Z,Z,Z,Z⟩,Z,[(ru 5 A_7 w.length c_8 w)],fun _ h=>h.sel [2] (by decide) Z,?_⟩
 exact⟨_,_,Z,Z⟩
set_option maxHeartbeats 1000000 in
theorem aTt {w_:World} {A_u:Option Addr} {n_u c_u:Nat} {u:List Int} {lim:Int} {w:List Int} {k so od sz:Int} (h_u:Rd w_ A_u n_u c_u 1 (ints .u8 u)) (bh_u:aN u) (hN:u.length≤1000000) (hu:u=mP k so od sz w) (bh_w:aN w) (hS:w.length≤400) (hk:k=0∨k=1∨k=2) (hp:(0≤so∧so≤2)∧(od=0∨od=1)∧(1≤sz∧sz≤16777216)) (hlim: -1000≤lim∧lim≤1000000) (hfit:1≤w.length∧lim<w.length):
  Ct Tryz.prog 19 #[.slice A_u n_u c_u,I lim] w_.heap.size w_ [] (fun v R'=>v= .tuple #[.agg #[.slice none 0 0, .slice none 0 0], .agg #[I 0,I 0,I 0,I 0],I 3]):=by
 obtain rfl:=h_u.lenI
 refine aVi Tryz.func19 Z Z Z underlying25 Z rT underlying27 Z gL ?_
 have m_u:=h_u.max
 refine wq<|wa (fA (sz:=2) WF Z) ?_
 rintro _ _ ⟨g_1,rfl,rfl⟩
 refine wa (fA (sz:=4) WE Z) ?_
 rintro _ _ ⟨g_2,rfl,rfl⟩
 refine wg Z<|aA<|wq<|wm Z<|wa (aD bAh Z (Ct.fresh (fun w hw=>yV ((h_u.c _) w hw) hN))) ?_
 rintro _ _ ⟨_,rfl,g_3,A_4,c_5,rfl,rfl⟩
 refine wm Z<|wy (sQ Z Z)<|wy (dS (v:= .agg #[.pointer (GG g_3),I 0,I 0,I 0,I 0,I (min lim 100000),I 0,I 0, .slice none 0 0, .slice none 0 0]) Z (fun w=>by kernel_rfl))<|wa (dV (sz:=10) rfl rfl) ?_
 rintro _ _ ⟨g_6,rfl,rfl⟩
 refine dK (R1:=[(ru 5 none 0 0 ([])),⟨87,10,(GG g_6),1,1,[.pointer (GG g_3),I 0,I 0,I 0,I 0,I (min lim 100000),I 0,I 0, .slice none 0 0, .slice none 0 0],false⟩,⟨146,1,(GG g_3),1,1,[.slice A_4 ((u).length) c_5],false⟩,(ru 5 A_4 ((u).length) c_5 u),⟨27,4,(GG g_2),1,1,[I 0,I 0,I 0,I 0],false⟩,⟨25,2,(GG g_1),1,1,[.slice none 0 0, .slice none 0 0],false⟩]) (Sub.refl _) (fun _ h=>h.nil 5 1)<|wg Z<|aA<|aG<|wq<|wm Z<|wa (aD bAg Z (Ct.pick [1,2,0,3,4,5] 99 (by decide) Z (aKz (X:=[]) (R0:=[(ru 5 A_4 ((u).length) c_5 u),⟨27,4,(GG g_2),1,1,[I 0,I 0,I 0,I 0],false⟩,⟨25,2,(GG g_1),1,1,[.slice none 0 0, .slice none 0 0],false⟩]) (rdr 0 Z) Z hN bh_u hu bh_w hS hk hp (by omega) (by omega)))) ?_
 rintro _ _ ⟨rfl,rfl⟩
 refine wg Z<|aA<|wq<|wm Z<|wy (Yl.t (iT Z Z) (by decide))<|aA<|dB Z<|wq<|wy (dS (v:= .agg #[.slice none 0 0, .slice none 0 0]) Z (fun w=>by kernel_rfl))<|wy (dS (v:= .agg #[I 0,I 0,I 0,I 0]) rfl (fun w=>by kernel_rfl))<|wm rfl<|bY (dQ (vs:=[.slice none 0 0, .slice none 0 0]) 2 rfl rT rfl rfl rfl (by intro v hv;simp at hv;rcases hv with rfl|rfl<;>rfl) rfl) ?_
 rintro _ _ rfl
 refine bY (dQ (vs:=[I 0,I 0,I 0,I 0]) 1 Z gL Z Z Z (by intro v hv;simp at hv;rcases hv with rfl|rfl|rfl|rfl<;>rfl) Z) ?_
 rintro _ _ rfl
 refine wg Z<|aA<|dL ?_
 refine⟨_,_,_,⟨_,2,_,Z,Z,Z,Z,Z,Z,Z,Z⟩,⟨_,1,_,Z,Z,Z,Z,Z,Z,Z,Z⟩,Z,[],fun _ h=>h.sel [] (by decide) Z,?_⟩
 rfl
end Go.Proofs.YtdbebmmhdefgdaaGreat

namespace Go.Proofs.YtdbebmmhdefgdaaGreat
open Go Go.Eng Go.Pure
open Tryz
set_option maxRecDepth 100000
theorem aGj {w:World} {f:Value}:
  Ct Tryz.prog 114 #[.slice none 0 0,f] w.heap.size w [] (fun v R'=>v=I (-1)):=by
 refine fn1 Tryz.func114 Z Z Z ?_
 refine wq<|wg Z<|aA<|aG<|wq<|wm Z<|wy (aR underlying23 Z)<|wm Z<|aA<|aI<|qK 1<|eB<|aG ?_
 refine aL<|wy (Yl.f (fG Z Z) (by decide))<|aA<|aG<|aQ Z<|aZ<|wq<|wg Z<|aA<|dL ?_
 refine⟨_,Z,?_⟩
 rfl
theorem pI {w:World} {f:Value}:
  Ct Tryz.prog 68 #[.slice none 0 0,f] w.heap.size w [] (fun v R'=>v= .bool false):=by
 refine fn1 Tryz.func68 Z Z Z ?_
 refine wq<|wg Z<|aA<|wq<|wm Z<|wm Z<|wa (aD bCs Z (Ct.quiet (fun w hw=>aGj))) ?_
 rintro _ _ ⟨rfl,rfl⟩
 refine wy (Yl.f (jS Z Z) (by omega))<|wg Z<|aA<|dL ?_
 refine⟨_,Z,?_⟩
 rfl
theorem VJ {B:Nat} {w0:World} {R:List Row}:Ct Tryz.prog 39 #[.slice none 0 0] B w0 R (fun v R'=> ∃(A:Option Addr) (c:Nat),v= .slice A 0 c∧R'=R):=by
 intro w hw
 refine(Ct.fresh (fun w hw=>aHu (ws:=[]) (DT 1 w (Hp.refl w)) (jE _ _) ⟨(fun _ h=>by cases h),by decide⟩) w hw).mono ?_
 rintro e w' ⟨v,R',he,hh,Rn,rfl,A,c,vals,Rs,hv,hs,rfl⟩
 have h1:vals.length=(canon []).length:=hs.1
 have h0:vals.length=0:=by rw[h1,aHt];rfl
 rw[h0] at hv
 exact⟨v,R,he,hh.right,A,c,hv,Z⟩
theorem aSs {B:Nat} {w0:World} {R:List Row} {A_u:Option Addr} {n_u c_u:Nat} {u:List Int} {so od sz:Int} (h_u:RdC B w0 R A_u n_u c_u 1 (ints .u8 u)) (hn_u:n_u=u.length) (bh_u:aN u) (hN:u.length≤100000) (hp:(0≤so∧so≤2)∧(od=0∨od=1)∧(1≤sz∧sz≤16777216)):
  Ct Tryz.prog 36 #[.agg #[.slice A_u n_u c_u, .slice none 0 0], .agg #[I 0,I so,I od,I sz]] B w0 (R) (fun v R'=>v=I 0∧R'=R):=by
 subst hn_u
 refine fn1 Tryz.func36 Z Z Z ?_
 refine wq<|wa (dV (sz:=2) Z Z) ?_
 rintro _ _ ⟨g_1,rfl,rfl⟩
 refine wa (dV (sz:=4) Z Z) ?_
 rintro _ _ ⟨g_3,rfl,rfl⟩
 refine wg Z<|aA<|wq<|wg Z<|aA<|wq<|wy (aC (off:=0) (m:=0) underlying27 Z sz3 Z Z Z)<|wy (aK (rdr 0 Z) underlying3 Z Z Z)<|wy (Yl.f (dI Z Z) (by decide))<|wg Z<|aA<|aG<|aG ?_
 refine aL<|wy (dZ (vs:=[I 0,I so,I od,I sz]) (rdr 0 Z) underlying27 Z gL Z Z (Nat.le_of_ble_eq_true Z) Z)<|wa (aD aOf Z (zD (by omega) hp)) ?_
 rintro _ _ ⟨rfl,rfl⟩
 refine wy (dH Z)<|wm Z<|aB Z Z<|wm Z<|aB Z Z<|wy (dH Z)<|aB Z Z<|wm Z<|aB Z Z<|wy (aC (off:=1) (m:=1) underlying25 Z vM Z Z Z)<|aB Z Z<|wy (aK (rdr 1 Z) underlying23 Z Z Z)<|aB Z Z<|wy (aR underlying23 Z)<|aB Z Z ?_
 refine wy (Yl.f (dR Z Z) (by omega))<|aB Z Z<|wy (aT Z Z)<|wy (aP Z Z)<|wm Z<|aB Z Z<|wm Z<|aB Z Z<|wm Z<|aO Z Z Z Z<|aO Z Z Z Z<|aO Z Z Z Z<|aO Z Z Z Z<|aB Z Z<|wy (aP Z Z) ?_
 refine wy (aP Z Z)<|wm Z<|aB Z Z<|wy (aC (off:=1) (m:=1) underlying25 Z vM Z Z Z)<|aB Z Z<|wy (aK (rdr 1 Z) underlying23 Z Z Z)<|aB Z Z<|wm Z<|aB Z Z<|wa (aD aYj Z (Ct.quiet (fun w hw=>pI))) ?_
 rintro _ _ ⟨rfl,rfl⟩
 refine wy (aP Z Z)<|aA<|aQ Z<|aJ<|aG<|aG<|bT mixed<|wD 0 Z (aC (off:=0) (m:=0) underlying25 Z fP Z Z Z)<|wD 1 Z (aK (rdr 1 Z) underlying22 Z Z Z)<|wD 2 Z (aR underlying22 Z)<|wD 3 Z (aC (off:=1) (m:=1) underlying25 Z vM Z Z Z)<|wD 4 Z (aK (rdr 1 Z) underlying23 Z Z Z)<|fO 5 Z (by kernel_rfl) Z (aD KD Z (Ct.fresh (fun w hw=>jQ ((DT _) w hw) (jE _ _) (by first|assumption|omega|decide)))) ?_
 rintro _ _ ⟨_,rfl,A_5,c_6,rfl,rfl⟩
 refine⟨.inr fun _ h=>h.right (R':=[_]),?_⟩
 refine wD 6 Z (aR underlying22 Z)<|wD 7 Z (dG Z Z (by have e:([]:List (List Int)).flatten.length=0:=rfl;omega)) ?_
 refine wD 8 Z (Yl.f (dR Z Z) (by have e:([]:List (List Int)).flatten.length=0:=rfl;omega)) ?_
 refine wD 9 Z (aM Z)<|aY 10 Z (by kernel_rfl) Z Z Z (aC (off:=1) (m:=1) underlying25 Z vM Z Z Z)<|aY 11 Z (by kernel_rfl) Z Z Z (aK (rdr 2 Z) underlying23 Z Z Z)<|aY 12 Z (by kernel_rfl) Z Z Z (aR underlying23 Z)<|aY 13 Z (by kernel_rfl) Z Z Z (Yl.f (dR Z Z) (by omega))<|wD 14 Z (aP Z Z)<|bP (by kernel_rfl)<|aQ Z<|aJ<|wq<|wg Z<|aA<|bA [] 3 (by decide) Z ?_
 refine⟨_,Z,?_⟩
 exact⟨Z,Z⟩
theorem aSr {B:Nat} {w0:World} {R:List Row} {A_u:Option Addr} {n_u c_u:Nat} {u:List Int} {so od sz:Int} (h_u:RdC B w0 R A_u n_u c_u 1 (ints .u8 u)) (hn_u:n_u=u.length) (bh_u:aN u) (hN:u.length≤100000) (hp:(0≤so∧so≤2)∧(od=0∨od=1)∧(1≤sz∧sz≤16777216)):
  Ct Tryz.prog 36 #[.agg #[.slice A_u n_u c_u, .slice none 0 0], .agg #[I 1,I so,I od,I sz]] B w0 (R) (fun v R'=>v=I 0∧R'=R):=by
 subst hn_u
 refine fn1 Tryz.func36 Z Z Z ?_
 refine wq<|wa (dV (sz:=2) Z Z) ?_
 rintro _ _ ⟨g_1,rfl,rfl⟩
 refine wa (dV (sz:=4) Z Z) ?_
 rintro _ _ ⟨g_3,rfl,rfl⟩
 refine wg Z<|aA<|wq<|wg Z<|aA<|wq<|wy (aC (off:=0) (m:=0) underlying27 Z sz3 Z Z Z)<|wy (aK (rdr 0 Z) underlying3 Z Z Z)<|wy (Yl.f (dI Z Z) (by decide))<|wg Z<|aA<|aG<|aG ?_
 refine aL<|wy (dZ (vs:=[I 1,I so,I od,I sz]) (rdr 0 Z) underlying27 Z gL Z Z (Nat.le_of_ble_eq_true Z) Z)<|wa (aD aOf Z (zD (by omega) hp)) ?_
 rintro _ _ ⟨rfl,rfl⟩
 refine wy (dH Z)<|wm Z<|aB Z Z<|wm Z<|aB Z Z<|wy (dH Z)<|aB Z Z<|wm Z<|aB Z Z<|wy (aC (off:=1) (m:=1) underlying25 Z vM Z Z Z)<|aB Z Z<|wy (aK (rdr 1 Z) underlying23 Z Z Z)<|aB Z Z<|wy (aR underlying23 Z)<|aB Z Z ?_
 refine wy (Yl.f (dR Z Z) (by omega))<|aB Z Z<|wy (aT Z Z)<|wy (aP Z Z)<|wm Z<|aB Z Z<|wm Z<|aB Z Z<|wm Z<|aO Z Z Z Z<|aO Z Z Z Z<|aO Z Z Z Z<|aO Z Z Z Z<|aB Z Z<|wy (aP Z Z) ?_
 refine wy (aP Z Z)<|wm Z<|aB Z Z<|wy (aC (off:=1) (m:=1) underlying25 Z vM Z Z Z)<|aB Z Z<|wy (aK (rdr 1 Z) underlying23 Z Z Z)<|aB Z Z<|wm Z<|aB Z Z<|wa (aD aYj Z (Ct.quiet (fun w hw=>pI))) ?_
 rintro _ _ ⟨rfl,rfl⟩
 refine wy (aP Z Z)<|aA<|aQ Z<|aJ<|aG<|aG<|bT mixed<|wD 0 Z (aC (off:=0) (m:=0) underlying25 Z fP Z Z Z)<|wD 1 Z (aK (rdr 1 Z) underlying22 Z Z Z)<|wD 2 Z (aR underlying22 Z)<|wD 3 Z (aC (off:=1) (m:=1) underlying25 Z vM Z Z Z)<|wD 4 Z (aK (rdr 1 Z) underlying23 Z Z Z)<|fO 5 Z (by kernel_rfl) Z (aD KD Z (Ct.fresh (fun w hw=>jQ ((DT _) w hw) (jE _ _) (by first|assumption|omega|decide)))) ?_
 rintro _ _ ⟨_,rfl,A_5,c_6,rfl,rfl⟩
 refine⟨.inr fun _ h=>h.right (R':=[_]),?_⟩
 refine wD 6 Z (aR underlying22 Z)<|wD 7 Z (dG Z Z (by have e:([]:List (List Int)).flatten.length=0:=rfl;omega)) ?_
 refine wD 8 Z (Yl.f (dR Z Z) (by have e:([]:List (List Int)).flatten.length=0:=rfl;omega)) ?_
 refine wD 9 Z (aM Z)<|aY 10 Z (by kernel_rfl) Z Z Z (aC (off:=1) (m:=1) underlying25 Z vM Z Z Z)<|aY 11 Z (by kernel_rfl) Z Z Z (aK (rdr 2 Z) underlying23 Z Z Z)<|aY 12 Z (by kernel_rfl) Z Z Z (aR underlying23 Z)<|aY 13 Z (by kernel_rfl) Z Z Z (Yl.f (dR Z Z) (by omega))<|wD 14 Z (aP Z Z)<|bP (by kernel_rfl)<|aQ Z<|aJ<|wq<|wg Z<|aA<|bA [] 3 (by decide) Z ?_
 refine⟨_,Z,?_⟩
 exact⟨Z,Z⟩
theorem aSq {B:Nat} {w0:World} {R:List Row} {A_u:Option Addr} {n_u c_u:Nat} {u:List Int} {so od sz:Int} (h_u:RdC B w0 R A_u n_u c_u 1 (ints .u8 u)) (hn_u:n_u=u.length) (bh_u:aN u) (hN:u.length≤100000) (hp:(0≤so∧so≤2)∧(od=0∨od=1)∧(1≤sz∧sz≤16777216)):
  Ct Tryz.prog 36 #[.agg #[.slice A_u n_u c_u, .slice none 0 0], .agg #[I 2,I so,I od,I sz]] B w0 (R) (fun v R'=>v=I 0∧R'=R):=by
 subst hn_u
 refine fn1 Tryz.func36 Z Z Z ?_
 refine wq<|wa (dV (sz:=2) Z Z) ?_
 rintro _ _ ⟨g_1,rfl,rfl⟩
 refine wa (dV (sz:=4) Z Z) ?_
 rintro _ _ ⟨g_3,rfl,rfl⟩
 refine wg Z<|aA<|wq<|wg Z<|aA<|wq<|wy (aC (off:=0) (m:=0) underlying27 Z sz3 Z Z Z)<|wy (aK (rdr 0 Z) underlying3 Z Z Z)<|wy (Yl.f (dI Z Z) (by decide))<|wg Z<|aA<|aG<|aG ?_
 refine aL<|wy (dZ (vs:=[I 2,I so,I od,I sz]) (rdr 0 Z) underlying27 Z gL Z Z (Nat.le_of_ble_eq_true Z) Z)<|wa (aD aOf Z (zD (by omega) hp)) ?_
 rintro _ _ ⟨rfl,rfl⟩
 refine wy (dH Z)<|wm Z<|aB Z Z<|wm Z<|aB Z Z<|wy (dH Z)<|aB Z Z<|wm Z<|aB Z Z<|wy (aC (off:=1) (m:=1) underlying25 Z vM Z Z Z)<|aB Z Z<|wy (aK (rdr 1 Z) underlying23 Z Z Z)<|aB Z Z<|wy (aR underlying23 Z)<|aB Z Z ?_
 refine wy (Yl.f (dR Z Z) (by omega))<|aB Z Z<|wy (aT Z Z)<|wy (aP Z Z)<|wm Z<|aB Z Z<|wm Z<|aB Z Z<|wm Z<|aO Z Z Z Z<|aO Z Z Z Z<|aO Z Z Z Z<|aO Z Z Z Z<|aB Z Z<|wy (aP Z Z) ?_
 refine wy (aP Z Z)<|wm Z<|aB Z Z<|wy (aC (off:=1) (m:=1) underlying25 Z vM Z Z Z)<|aB Z Z<|wy (aK (rdr 1 Z) underlying23 Z Z Z)<|aB Z Z<|wm Z<|aB Z Z<|wa (aD aYj Z (Ct.quiet (fun w hw=>pI))) ?_
 rintro _ _ ⟨rfl,rfl⟩
 refine wy (aP Z Z)<|aA<|aQ Z<|aJ<|aG<|aG<|bT mixed<|wD 0 Z (aC (off:=0) (m:=0) underlying25 Z fP Z Z Z)<|wD 1 Z (aK (rdr 1 Z) underlying22 Z Z Z)<|wD 2 Z (aR underlying22 Z)<|wD 3 Z (aC (off:=1) (m:=1) underlying25 Z vM Z Z Z)<|wD 4 Z (aK (rdr 1 Z) underlying23 Z Z Z)<|fO 5 Z (by kernel_rfl) Z (aD KD Z (Ct.fresh (fun w hw=>jQ ((DT _) w hw) (jE _ _) (by first|assumption|omega|decide)))) ?_
 rintro _ _ ⟨_,rfl,A_5,c_6,rfl,rfl⟩
 refine⟨.inr fun _ h=>h.right (R':=[_]),?_⟩
 refine wD 6 Z (aR underlying22 Z)<|wD 7 Z (dG Z Z (by have e:([]:List (List Int)).flatten.length=0:=rfl;omega)) ?_
 refine wD 8 Z (Yl.f (dR Z Z) (by have e:([]:List (List Int)).flatten.length=0:=rfl;omega)) ?_
 refine wD 9 Z (aM Z)<|aY 10 Z (by kernel_rfl) Z Z Z (aC (off:=1) (m:=1) underlying25 Z vM Z Z Z)<|aY 11 Z (by kernel_rfl) Z Z Z (aK (rdr 2 Z) underlying23 Z Z Z)<|aY 12 Z (by kernel_rfl) Z Z Z (aR underlying23 Z)<|aY 13 Z (by kernel_rfl) Z Z Z (Yl.f (dR Z Z) (by omega))<|wD 14 Z (aP Z Z)<|bP (by kernel_rfl)<|aQ Z<|aJ<|wq<|wg Z<|aA<|bA [] 3 (by decide) Z ?_
 refine⟨_,Z,?_⟩
 exact⟨Z,Z⟩
end Go.Proofs.YtdbebmmhdefgdaaGreat

namespace Go.Proofs.YtdbebmmhdefgdaaGreat
open Go Go.Eng Go.RowKit Go.Shelf Go.Proofs
attribute [local go_sem] Oper.semAt_some
theorem kV {W:World} {a:Addr} {n c:Nat} {xs:List Value} (h:Rd W (some a) n c 1 xs) {j:Nat} (hj:j<xs.length):W.cell? (a.add j)=some (xs[j]'hj):=by
 obtain⟨b,h1,h2⟩:=h.at_ j _ (List.getElem?_eq_getElem hj)
 obtain rfl:=Option.some.inj h1
 exact h2
def chN (m n:Nat):Nat:=(m+n-1)/n
theorem ZL {m n k:Nat} (hn:1≤n):k<chN m n↔k*n<m:=by
 unfold chN
 rw[Nat.lt_iff_add_one_le,Nat.le_div_iff_mul_le (by omega),Nat.add_mul]
 omega
theorem ZG {k n m:Nat} (h:n≤m-k*n):((k:Int)*(n:Int)+(n:Int)).toNat-k*n=min n (m-k*n):=by
 have hcast:(k:Int)*(n:Int)=((k*n:Nat):Int):=by simp
 omega
theorem ZE {k n m:Nat}:((k:Int)*(n:Int)+min (n:Int) ((m-k*n:Nat):Int)).toNat-k*n=min n (m-k*n):=by
 have hcast:(k:Int)*(n:Int)=((k*n:Nat):Int):=by simp
 omega
theorem ZF {k n m:Nat} (h:m-k*n≤n):((k:Int)*(n:Int)+((m-k*n:Nat):Int)).toNat-k*n=min n (m-k*n):=by
 have hcast:(k:Int)*(n:Int)=((k*n:Nat):Int):=by simp
 omega
theorem ZH {k n N:Nat} (hn:1≤n) (h:k<N):N-(intOf (.int .i64 ((k:Int)*n+n))).toNat/n<N-(intOf (.int .i64 ((k:Int)*n))).toNat/n:=by
 have e0:(intOf (.int .i64 ((k:Int)*n))).toNat=k*n:=by
  have hcast:(k:Int)*(n:Int)=((k*n:Nat):Int):=by simp
  simp only[intOf,hcast]
  omega
 have e1:(intOf (.int .i64 ((k:Int)*n+n))).toNat=(k+1)*n:=by
  have hcast:(k:Int)*(n:Int)=((k*n:Nat):Int):=by simp
  simp only[intOf,hcast,Nat.add_mul]
  omega
 rw[e0,e1,Nat.mul_div_cancel _ (by omega),Nat.mul_div_cancel _ (by omega)]
 omega
theorem ZJ {P:Program} {t e:TypeId} {A:Option Addr} {m c:Nat} {p:Nat} {tm:Array Value} {s:Nat} {w:World} {o:Oper} (ht:P.underlying t=some (.slice e)) (hi:(P.info? e).map (·.size)=some 1)
  (ho:o.op= .slice t (.tmp 14) (some (.tmp 15)) none none) (hs:tm.size=s) (h14:tm[14]? =some (.slice A m c)) (h15:tm[15]? =some (.int .i64 (p:Int))) (hp:p≤m):
  (execOp ({tmps:=tm,defers:=[]}:Act).eval o).run P w= .ok (.value (.slice (jB A p c 1) (m-p) (c-p))) w:=by
 have h:=gH (P:=P) (n:=⟨s,[],none⟩) (B:=w.heap.size) (w0:=w) (L:=[(14, .slice A m c),(15, .int .i64 (p:Int))]) (R:=[]) (ty:=o.type) (x:= .tmp 14) (y:= .tmp 15) ht hi rfl rfl (l:=(p:Int)) (by omega) (by omega)
 have h2:=h {tmps:=tm,defers:=[]} w o ho rfl ⟨hs,rfl,fun t v hv=>by
  rcases vF hv with⟨rfl,rfl⟩|⟨_,hv⟩
  ·exact h14
  ·rcases vF hv with⟨rfl,rfl⟩|⟨_,hv⟩
   ·exact h15
   ·simp[lk] at hv⟩ (Hp.refl w)
 rw[Int.toNat_natCast] at h2
 exact h2
set_option maxRecDepth 100000 in
set_option maxHeartbeats 2000000 in
theorem aPg {g1 g2:Nat} {A:Option Addr} {c n:Nat} {xs:List Value} (hn:1≤n) (hn2:n≤16777216) (hmax:xs.length≤1000000):Iter Tryz.prog 73 #[.pointer (some ⟨g1,0,none⟩), .pointer (some ⟨g2,0,none⟩)] (fun w=>Rd w (some ⟨g1,0,none⟩) 1 1 1 [.slice A xs.length c]∧Rd w (some ⟨g2,0,none⟩) 1 1 1 [.int .i64 (n:Int)]∧Rd w A xs.length c 1 xs) (chN xs.length n)
  (fun k=>[.slice (jB A (k*n) c 1) (min n (xs.length-k*n)) (min n (xs.length-k*n))]):=by
 intro l J W hR hD hY h0
 have hc:W.cell? ⟨g1,0,none⟩=some (.slice A xs.length c):=kV (hR _ _ h0).1 (j:=0) (by simp)
 have hd:W.cell? ⟨g2,0,none⟩=some (.int .i64 (n:Int)):=kV (hR _ _ h0).2.1 (j:=0) (by simp)
 have hle:=(hR _ _ h0).2.2.le
 refine callsIn_of_wp Tryz.func73 rfl trivial ?_ rfl
 simp only[Tryz.ntmps73,List.size_toArray,List.length_cons,List.length_nil,Nat.reduceAdd,Nat.reduceSub,Array.replicate_succ,Array.replicate_zero,List.push_toArray,List.append_toArray,List.nil_append,List.cons_append]
 gi_wp2
 gi_loopw [4] (fun i wr=> ∃k:Nat,k≤chN xs.length n∧i= .int .i64 ((k*n:Nat):Int)∧J k wr) (fun i _=>chN xs.length n-(intOf i).toNat/n)
 case atStart=>exact⟨0,Nat.zero_le _,by simp,h0⟩
 case round=>
  obtain⟨k,hk,rfl,hJs⟩:=hrel
  have hc1:wr.cell? ⟨g1,0,none⟩=some (.slice A xs.length c):=kV (hR _ _ hJs).1 (j:=0) (by simp)
  have hd1:wr.cell? ⟨g2,0,none⟩=some (.int .i64 (n:Int)):=kV (hR _ _ hJs).2.1 (j:=0) (by simp)
  by_cases hlt:k<chN xs.length n
  ·have hkn:k*n<xs.length:=(ZL hn).1 hlt
   have hcut:jB A (k*n) c 1=Option.map (fun x=>x.add (k*n)) A:=by
    unfold jB
    rw[if_neg (by omega),Nat.mul_one]
   gi_wp2
   refine wpIn_region_quiet_lit rfl (by kernel_rfl) (by kernel_rfl) ?_
   iterate 3 quiet_step_in (skip)
   refine wpQuietIn_step (by quiet_asked_in) (fun K hK=> ?_)
   rw[if_pos (by simp[Region.wanted])]
   refine⟨.slice (jB A (k*n) c 1) (xs.length-k*n) (c-k*n),fun w' hw'=> ?_,hK _ ?_⟩
   ·unfold Oper.quietAtIn
    rw[ZJ (p:=k*n) (A:=A) (m:=xs.length) (c:=c) Tryz.underlying22 sz5 rfl rfl rfl (by simp) (by omega)]
    exact⟨rfl,rfl⟩
   clear hK K
   iterate 3 quiet_step_in (skip)
   refine wpQuietIn_nil ?_
   intro _ hw'
   obtain⟨nq,hw''⟩:=hw'
   subst hw''
   have hJn:J k (wr.drewN nq):=hD k wr (wr.drawn+nq) hJs (by omega)
   have hc2:(wr.drewN nq).cell? ⟨g1,0,none⟩=some (.slice A xs.length c):=kV (hR _ _ hJn).1 (j:=0) (by simp)
   have hd2:(wr.drewN nq).cell? ⟨g2,0,none⟩=some (.int .i64 (n:Int)):=kV (hR _ _ hJn).2.1 (j:=0) (by simp)
   obtain⟨fn,tmps,assign,body,hy,hRd⟩:=hY k _ hlt hJn
   have hm0:(k*n)/n=k:=Nat.mul_div_cancel _ (by omega)
   have hm1:(k*n+n)/n=k+1:=by rw[←Nat.succ_mul];exact Nat.mul_div_cancel _ (by omega)
   gi_wp2
   all_goals
    rw[hcut] at hy
    first
     |rw[ZG (k:=k) (n:=n) (m:=xs.length) (by omega),hy]
     |rw[ZF (k:=k) (n:=n) (m:=xs.length) (by omega),hy]
     |rw[ZE (k:=k) (n:=n) (m:=xs.length),hy]
    gi_wp2
    refine⟨rfl,hRd.mono ?_⟩
    rintro e W3 ⟨rfl,hJ3⟩
    have hd3:W3.cell? ⟨g2,0,none⟩=some (.int .i64 (n:Int)):=kV (hR _ _ hJ3).2.1 (j:=0) (by simp)
    gi_wp2
    go_roundw
    case rel=>exact⟨k+1,by omega,by simp[Nat.add_mul],hJ3⟩
    case measure=>
     exact ZH hn hlt
  ·obtain rfl:k=chN xs.length n:=by omega
   have hkn: ¬chN xs.length n*n<xs.length:=fun h=>hlt ((ZL hn).2 h)
   gi_wp2
   go_end0
   exact⟨⟨_,rfl⟩,hJs⟩
theorem ZI {g1 g2:Nat} {A:Option Addr} {c n:Nat} {zs:List Int} (hn:1≤n) (hn2:n≤16777216) (hmax:zs.length≤1000000):Iter Tryz.prog 73 #[.pointer (some ⟨g1,0,none⟩), .pointer (some ⟨g2,0,none⟩)] (fun w=>Rd w (some ⟨g1,0,none⟩) 1 1 1 [.slice A zs.length c]∧Rd w (some ⟨g2,0,none⟩) 1 1 1 [.int .i64 (n:Int)]∧Rd w A zs.length c 1 (ints .u8 zs)) (chN zs.length n)
  (fun k=>[.slice (jB A (k*n) c 1) (min n (zs.length-k*n)) (min n (zs.length-k*n))]):=by
 have h:=aPg (g1:=g1) (g2:=g2) (A:=A) (c:=c) (xs:=ints .u8 zs) hn hn2 (by rw[bS];exact hmax)
 rw[bS] at h
 exact h
theorem VH {g1 g2:Nat} {A:Option Addr} {c:Nat} {sz:Int} {zs:List Int} (hn:1≤sz) (hn2:sz≤16777216) (hmax:zs.length≤1000000):Iter Tryz.prog 73 #[.pointer (some ⟨g1,0,none⟩), .pointer (some ⟨g2,0,none⟩)] (fun w=>Rd w (some ⟨g1,0,none⟩) 1 1 1 [.slice A zs.length c]∧Rd w (some ⟨g2,0,none⟩) 1 1 1 [.int .i64 sz]∧Rd w A zs.length c 1 (ints .u8 zs)) (chN zs.length sz.toNat)
  (fun k=>[.slice (jB A (k*sz.toNat) c 1) (min sz.toNat (zs.length-k*sz.toNat)) (min sz.toNat (zs.length-k*sz.toNat))]):=by
 have h:=ZI (g1:=g1) (g2:=g2) (A:=A) (c:=c) (n:=sz.toNat) (zs:=zs) (by omega) (by omega) hmax
 rw[Int.toNat_of_nonneg (by omega)] at h
 exact h
theorem aFc {B:Nat} {w0:World} {R:List Row} {A:Option Addr} {m c l n:Nat} {k:IntKind} {xs:List Int} (hr:RdC B w0 R A m c 1 (ints k xs)) (h1:l≤m):RdC B w0 R (jB A l c 1) (min n (m-l)) (min n (m-l)) 1 (ints k ((xs.drop l).take n)):=by
 intro w hw
 have hl:=(hr w hw).lenI
 have h:=hr.cutI (l:=l) (h:=l+min n (m-l)) (by omega) (by omega) w hw
 rw[show l+min n (m-l)-l=min n (m-l) by omega] at h
 have e:(xs.drop l).take (min n (m-l))=(xs.drop l).take n:=by
  rcases Nat.le_total n (m-l) with a|a
  ·rw[Nat.min_eq_left a]
  ·rw[Nat.min_eq_right a,List.take_of_length_le (by rw[List.length_drop];omega),List.take_of_length_le (by rw[List.length_drop];omega)]
 rw[e] at h
 exact⟨h.len,h.max,Nat.le_refl _,h.at_⟩
end Go.Proofs.YtdbebmmhdefgdaaGreat

namespace Go.Proofs.YtdbebmmhdefgdaaGreat
open Go Go.Eng Go.Pure
open Tryz
set_option maxRecDepth 100000
theorem ZK {w:World} {A_u:Option Addr} {n_u c_u:Nat} {u:List Int} {n:Int} (h_u:Rd w A_u n_u c_u 1 (ints .u8 u)) (hn:1≤n):
  Ct Tryz.prog 40 #[.slice A_u n_u c_u,I n] w.heap.size w [] (fun v R'=> ∃g1 g2,v= .func (.func 73) #[] #[.pointer (GG g1), .pointer (GG g2)]∧R'=[⟨22,1,(GG g1),1,1,[.slice A_u u.length c_u],false⟩,⟨3,1,(GG g2),1,1,[I n],false⟩]):=by
 obtain rfl:=h_u.lenI
 refine fn1 Tryz.func40 Z Z Z ?_
 have m_u:=h_u.max
 refine wq<|wa (dV (sz:=1) Z Z) ?_
 rintro _ _ ⟨g_1,rfl,rfl⟩
 refine wa (dV (sz:=1) Z Z) ?_
 rintro _ _ ⟨g_2,rfl,rfl⟩
 refine wg Z<|aA<|aG<|wq<|wy (aK (rdr 0 Z) underlying3 Z Z Z)<|wy (Yl.f (fG Z Z) (by omega))<|aA<|aQ Z<|aJ<|wq<|wy (kR Z Z)<|wg Z<|aA ?_
 refine bA [1,0] 99 (by decide) Z ?_
 refine⟨_,Z,?_⟩
 exact⟨_,_,Z,Z⟩
theorem wP {w:World} {A_ws:Option Addr} {n_ws c_ws:Nat} {vals_ws:List Value} {ws:List (List Int)} {u:List Int} (h_ws:Rd w A_ws n_ws c_ws 1 vals_ws) (s_ws:SlW .u8 w vals_ws ws) (hN:ws.flatten.length≤1000000∧ws.length≤1000000) (e:ws.flatten=u):
  Ct Tryz.prog 38 #[.slice A_ws n_ws c_ws] w.heap.size w [] (fun v R'=> ∃A c,v= .slice A u.length c∧R'=[(ru 5 A u.length c u)]):=by
 subst e
 exact jQ h_ws s_ws hN
theorem aRs {B:Nat} {w0:World} {R:List Row} {A:Option Addr} {c:Nat}:RdC B w0 R A 0 c 1 []:=fun _ _=>⟨rfl,by omega,by omega,fun j v hv=>by simp at hv⟩
theorem aNz {k so od sz:Int} {u acc:List Int} (h:acc=(([87,72,82,76]++[1,k%256,so%256,od%256])++bQ sz)++kP k od sz.toNat u (chN u.length sz.toNat)) (hs:0≤so∧so≤2) (ho:od=0∨od=1) (hk:0≤k∧k<256):
  ([]++[acc]++[bQ 0]++[bQ ((u.length:Nat):Int)]:List (List Int)).flatten=mP k so od sz u:=by
 rw[h,Int.emod_eq_of_lt hk.1 hk.2,Int.emod_eq_of_lt (a:=so) (by omega) (by omega),Int.emod_eq_of_lt (a:=od) (by omega) (by omega)]
 unfold mP
 simp[chN,chK]
theorem aGz {k so od sz:Int} {u acc:List Int} (h:acc=(([87,72,82,76]++[1,k%256,so%256,od%256])++bQ sz)++kP k od sz.toNat u (chN u.length sz.toNat)) (hs:0≤so∧so≤2) (ho:od=0∨od=1) (hk:0≤k∧k<256) (hu:aN u) (hN:u.length≤100000) (hz:0≤sz):aN acc:=by
 rw[h]
 intro x hx
 rcases List.mem_append.1 hx with hx|hx
 ·rcases List.mem_append.1 hx with hx|hx
  ·simp only[List.cons_append,List.nil_append,List.mem_cons,List.not_mem_nil,or_false] at hx
   omega
  ·exact eY hz x hx
 ·exact(nE hu hN _).2 x hx
theorem aCx {k so od sz:Int} {u acc:List Int} (h:acc=(([87,72,82,76]++[1,k%256,so%256,od%256])++bQ sz)++kP k od sz.toNat u (chN u.length sz.toNat)) (hu:aN u) (hS:u.length≤400) (h1:1≤sz) (h2:sz≤16777216):acc.length≤400000:=by
 have e1:=(nE (t:=k) (o:=od) (n:=sz.toNat) hu (by omega) (chN u.length sz.toNat)).1
 have e2:chN u.length sz.toNat≤u.length:=aPi (by omega)
 have e3:(2*u.length+22)*chN u.length sz.toNat≤822*400:=Nat.mul_le_mul (by omega) (by omega)
 have e4:=fB 4 sz (by omega)
 have e5:=congrArg List.length h
 rw[List.length_append,List.length_append] at e5
 have e6:([87,72,82,76]++[1,k%256,so%256,od%256]:List Int).length=8:=rfl
 omega
theorem aIa {B:Nat} {w0:World} {R:List Row} {A_u:Option Addr} {n_u c_u:Nat} {u:List Int} {so od sz:Int} {k:Int} (h_u:RdC B w0 R A_u n_u c_u 1 (ints .u8 u)) (hn_u:n_u=u.length) (bh_u:aN u) (hN:u.length≤100000) (hp:(0≤so∧so≤2)∧(od=0∨od=1)∧(1≤sz∧sz≤16777216)) (hk:k=0∨k=1∨k=2):
  Ct Tryz.prog 41 #[.slice A_u n_u c_u, .slice none 0 0, .agg #[I k,I so,I od,I sz]] B w0 R (fun v R'=> ∃(A1:Option Addr) (c1:Nat),v= .slice A1 (dO k od u).length c1∧R'=(ru 5 A1 ((dO k od u).length) c1 (dO k od u))::R):=by
 rcases hk with rfl|rfl|rfl
 ·exact aId h_u hn_u bh_u hN hp
 ·exact aIc h_u hn_u bh_u hN hp
 ·exact aIb h_u hn_u bh_u hN hp
theorem aSp {B:Nat} {w0:World} {R:List Row} {A_u:Option Addr} {n_u c_u:Nat} {u:List Int} {so od sz:Int} {k:Int} (h_u:RdC B w0 R A_u n_u c_u 1 (ints .u8 u)) (hn_u:n_u=u.length) (bh_u:aN u) (hN:u.length≤100000) (hp:(0≤so∧so≤2)∧(od=0∨od=1)∧(1≤sz∧sz≤16777216)) (hk:k=0∨k=1∨k=2):
  Ct Tryz.prog 36 #[.agg #[.slice A_u n_u c_u, .slice none 0 0], .agg #[I k,I so,I od,I sz]] B w0 R (fun v R'=>v=I 0∧R'=R):=by
 subst hn_u
 rcases hk with rfl|rfl|rfl
 ·exact aSs h_u rfl bh_u hN hp
 ·exact aSr h_u rfl bh_u hN hp
 ·exact aSq h_u rfl bh_u hN hp
set_option maxHeartbeats 4000000 in
theorem vI {w:World} {A_u:Option Addr} {n_u c_u:Nat} {u:List Int} {k:Int} {so:Int} {od:Int} {sz:Int} (h_u:Rd w A_u n_u c_u 1 (ints .u8 u)) (bh_u:aN u) (hS:u.length≤400) (hp:(0≤so∧so≤2)∧(od=0∨od=1)∧(1≤sz∧sz≤16777216)) (hk:k=0∨k=1∨k=2):
  Ct Tryz.prog 16 #[.agg #[.slice A_u u.length c_u, .slice none 0 0], .agg #[I k,I so,I od,I sz]] w.heap.size w [] (fun v R'=> ∃A c,v= .tuple #[.slice A (mP k so od sz u).length c,I 0]∧R'=[(ru 5 A ((mP k so od sz u).length) c (mP k so od sz u))]):=by
 obtain rfl:=h_u.lenI
 refine fnV Tryz.func16 Z Z ?_
 have m_u:=h_u.max
 have hN:u.length≤100000:=by omega
 have hpz:=fB 4 sz (by omega)
 have hpu:=fB 2 (u.length:Int) (by omega)
 refine gD ?_
 refine aL<|wa (dV (sz:=2) Z Z) ?_
 rintro _ _ ⟨g_1,rfl,rfl⟩
 refine iZ (R1:=[⟨25,2,(GG g_1),1,1,[.slice A_u u.length c_u, .slice none 0 0],false⟩]) Z<|wa (dV (sz:=4) Z Z) ?_
 rintro _ _ ⟨g_2,rfl,rfl⟩
 refine iZ (R1:=[⟨27,4,(GG g_2),1,1,[I k,I so,I od,I sz],false⟩,⟨25,2,(GG g_1),1,1,[.slice A_u u.length c_u, .slice none 0 0],false⟩]) Z<|wg Z<|wg Z<|aA ?_
 refine gD ?_
 refine wq<|wy (dZ (vs:=[.slice A_u u.length c_u, .slice none 0 0]) (rdr 1 Z) underlying25 Z rT Z Z (Nat.le_of_ble_eq_true Z) Z)<|wy (dZ (vs:=[I k,I so,I od,I sz]) (rdr 0 Z) underlying27 Z gL Z Z (Nat.le_of_ble_eq_true Z) Z)<|wa (aD bAj Z (aSp (h_u.c _) (by first|rfl|(simp;done)|omega) bh_u hN hp hk)) ?_
 rintro _ _ ⟨rfl,rfl⟩
 refine wg Z<|aA<|wq<|wm Z<|wy (Yl.f (iT Z Z) (by decide))<|aA<|aQ Z<|aJ ?_
 refine gD ?_
 refine aL<|wa (cB .u8 [87,72,82,76] underlying22 zs5 Z Z Z) ?_
 rintro _ _ ⟨g_4,rfl,rfl⟩
 refine wa (aYy 0 Z Z underlying22 underlying5 Z Z) ?_
 rintro _ _ ⟨rfl,rfl⟩
 refine iZ (R1:=[⟨5,1,(GG g_4),4,4,ints .u8 ([87,72,82,76]),true⟩,⟨27,4,(GG g_2),1,1,[I k,I so,I od,I sz],false⟩,⟨25,2,(GG g_1),1,1,[.slice A_u u.length c_u, .slice none 0 0],false⟩]) Z<|wy (aC (off:=0) (m:=0) underlying27 Z sz3 Z Z Z)<|wy (aK (rdr 1 Z) underlying3 Z Z Z)<|wy (iA underlying3 underlying5 Z)<|wy (aC (off:=1) (m:=1) underlying27 Z sz3 Z Z Z)<|wy (aK (rdr 1 Z) underlying3 Z Z Z)<|wy (iA underlying3 underlying5 Z)<|wy (aC (off:=2) (m:=2) underlying27 Z sz3 Z Z Z)<|wy (aK (rdr 1 Z) underlying3 Z Z Z)<|wy (iA underlying3 underlying5 Z)<|wa (cB .u8 [1,k%256,so%256,od%256] underlying22 zs5 Z Z Z) ?_
 rintro _ _ ⟨g_6,rfl,rfl⟩
 refine wa (VY underlying22 zb5 Z (rdr 1 Z) Z (rdr 0 Z) (by first|decide|(dsimp only;decide)) (by first|decide|(dsimp only;decide)) (by first|decide|(dsimp only;decide)) (by first|decide|(dsimp only;decide)) (by first|decide|(dsimp only;decide)) Z) ?_
 rintro _ _ ⟨g_7,c_8,rfl,rfl⟩
 refine iZ (R1:=[(ru 5 (GG g_7) 8 c_8 (([87,72,82,76])++([1,k%256,so%256,od%256]))),(ru 5 (GG g_6) 4 4 ([1,k%256,so%256,od%256])),⟨5,1,(GG g_4),4,4,ints .u8 ([87,72,82,76]),true⟩,⟨27,4,(GG g_2),1,1,[I k,I so,I od,I sz],false⟩,⟨25,2,(GG g_1),1,1,[.slice A_u u.length c_u, .slice none 0 0],false⟩]) Z<|bO (v:= .slice (GG g_7) 8 c_8) Z<|wa (fA (sz:=1) aZi Z) ?_
 rintro _ _ ⟨g_9,rfl,rfl⟩
 refine iZ (R1:=[⟨22,1,(GG g_9),1,1,[.slice none 0 0],false⟩,(ru 5 (GG g_7) 8 c_8 (([87,72,82,76])++([1,k%256,so%256,od%256]))),(ru 5 (GG g_6) 4 4 ([1,k%256,so%256,od%256])),⟨5,1,(GG g_4),4,4,ints .u8 ([87,72,82,76]),true⟩,⟨27,4,(GG g_2),1,1,[I k,I so,I od,I sz],false⟩,⟨25,2,(GG g_1),1,1,[.slice A_u u.length c_u, .slice none 0 0],false⟩]) Z<|bY (bF 0 Z Z Z fP Z Z Z Z (Nat.le_of_ble_eq_true Z)) ?_
 rintro _ _ rfl
 refine iZ (R1:=[⟨22,1,(GG g_9),1,1,[.slice (GG g_7) 8 c_8],false⟩,(ru 5 (GG g_7) 8 c_8 (([87,72,82,76])++([1,k%256,so%256,od%256]))),(ru 5 (GG g_6) 4 4 ([1,k%256,so%256,od%256])),⟨5,1,(GG g_4),4,4,ints .u8 ([87,72,82,76]),true⟩,⟨27,4,(GG g_2),1,1,[I k,I so,I od,I sz],false⟩,⟨25,2,(GG g_1),1,1,[.slice A_u u.length c_u, .slice none 0 0],false⟩]) Z<|aA ?_
 refine gD ?_
 refine bT mixed<|wD 0 Z (aK (rdr 0 Z) underlying22 Z Z Z)<|wD 1 Z (aC (off:=3) (m:=3) underlying27 Z sz3 Z Z Z)<|wD 2 Z (aK (rdr 4 Z) underlying3 Z Z Z)<|fO 3 Z (by kernel_rfl) Z (aD KE Z (Ct.fresh (fun w hw=>kK (by omega)))) ?_
 rintro _ _ ⟨_,rfl,A_10,c_11,rfl,rfl⟩
 refine⟨.inr fun _ h=>h.right (R':=[_]),?_⟩
 refine fO 4 Z (by kernel_rfl) Z (bD 2 Z underlying22 zb5 Z Z Z (rdr 0 Z) (by omega)) ?_
 rintro _ _ ⟨A_13,c_14,rfl,rfl⟩
 refine⟨.inl (by kernel_rfl),?_⟩
 refine xC (R1:=[(ru 5 A_10 ((bQ sz).length) c_11 (bQ sz)),⟨22,1,(GG g_9),1,1,[.slice (GG g_7) 8 c_8],false⟩,(ru 5 A_13 (8+((bQ sz).length)) c_14 ((([87,72,82,76])++([1,k%256,so%256,od%256]))++(bQ sz))),(ru 5 (GG g_6) 4 4 ([1,k%256,so%256,od%256])),⟨5,1,(GG g_4),4,4,ints .u8 ([87,72,82,76]),true⟩,⟨27,4,(GG g_2),1,1,[I k,I so,I od,I sz],false⟩,⟨25,2,(GG g_1),1,1,[.slice A_u u.length c_u, .slice none 0 0],false⟩]) Z<|EI (v:= .slice A_13 (8+((bQ sz).length)) c_14) Z<|qJ 5 Z (by kernel_rfl) (bF 1 Z Z Z fP Z Z Z Z (Nat.le_of_ble_eq_true Z)) ?_
 rintro _ _ rfl
 refine⟨.inl (by kernel_rfl),?_⟩
 refine xC (R1:=[(ru 5 A_10 ((bQ sz).length) c_11 (bQ sz)),⟨22,1,(GG g_9),1,1,[.slice A_13 (8+((bQ sz).length)) c_14],false⟩,(ru 5 A_13 (8+((bQ sz).length)) c_14 ((([87,72,82,76])++([1,k%256,so%256,od%256]))++(bQ sz))),(ru 5 (GG g_6) 4 4 ([1,k%256,so%256,od%256])),⟨5,1,(GG g_4),4,4,ints .u8 ([87,72,82,76]),true⟩,⟨27,4,(GG g_2),1,1,[I k,I so,I od,I sz],false⟩,⟨25,2,(GG g_1),1,1,[.slice A_u u.length c_u, .slice none 0 0],false⟩]) Z<|bP (by kernel_rfl) ?_
 refine gD ?_
 refine bT mixed<|wD 0 Z (aC (off:=0) (m:=0) underlying25 Z fP Z Z Z)<|wD 1 Z (aK (rdr 6 Z) underlying22 Z Z Z)<|wD 2 Z (aC (off:=1) (m:=1) underlying25 Z vM Z Z Z)<|wD 3 Z (aK (rdr 6 Z) underlying23 Z Z Z)<|fO 4 Z (by kernel_rfl) Z (aD bEd Z (VJ)) ?_
 rintro _ _ ⟨A_15,c_16,rfl,rfl⟩
 refine⟨.inr fun _ h=>h,?_⟩
 refine fO 5 Z (by kernel_rfl) Z (aD KD Z (Ct.fresh (fun w hw=>wP (u:=([]:List Int)) (aRs w hw) (jE _ _) ⟨by decide,by decide⟩ rfl))) ?_
 rintro _ _ ⟨_,rfl,A_17,c_18,rfl,rfl⟩
 refine⟨.inr fun _ h=>h.right (R':=[_]),?_⟩
 refine fO 6 Z (by kernel_rfl) Z (nG [Value.slice A_u u.length c_u,Value.slice A_17 ((([]:List Int)).length) c_18] underlying23 wV Z Z Z Z) ?_
 rintro _ _ ⟨g_21,rfl,rfl⟩
 refine⟨.inr fun _ h=>h.right (R':=[_]),?_⟩
 refine fO 7 Z (by kernel_rfl) Z (aD KD Z (Ct.fresh (fun w hw=>wP (u:=u) ((rdr 0 Z) w hw) (((jE _ _).snoc ((h_u.c _) w hw) (fun x hx=>fM (bh_u x hx)) (by omega)).snoc ((rdr 1 Z) w hw) (fun x hx=>fM ((show aN [] from fun _ h=>nomatch h) x hx)) (by decide)) ⟨by simp;omega,by simp⟩ (by simp)))) ?_
 rintro _ _ ⟨_,rfl,A_22,c_23,rfl,rfl⟩
 refine⟨.inr fun _ h=>h.right (R':=[_]),?_⟩
 refine wD 8 Z (bV Z)<|bP (by kernel_rfl) ?_
 refine gD ?_
 refine aL<|wy (aC (off:=3) (m:=3) underlying27 Z sz3 Z Z Z)<|wy (aK (rdr 8 Z) underlying3 Z Z Z)<|wg Z<|aA ?_
 refine gD ?_
 refine wq<|wy (aC (off:=0) (m:=0) underlying27 Z sz3 Z Z Z)<|wy (aK (rdr 8 Z) underlying3 Z Z Z)<|wy (Yl.f (dI Z Z) (by omega))<|aA<|aQ Z<|aJ ?_
 refine aAt ?_
 refine gD ?_
 refine aL<|wm Z<|wm Z<|wa (aD bEc Z (Ct.fresh (fun w hw=>ZK ((rdr 0 Z) w hw) (by omega)))) ?_
 rintro _ _ ⟨_,rfl,g_24,g_25,rfl,rfl⟩
 refine aA ?_
 refine DD ?_
 refine QL Z bDu (VH (A:=A_22) (c:=c_23) (zs:=u) (sz:=sz) (by omega) (by omega) (by omega)) Z (fun _=>Z) Gd.refl (fun(kr:Nat) (A1:Option Addr) (n1:Nat) (c1:Nat) (acc:List Int)=>[⟨22,1,(GG g_24),1,1,[.slice A_22 ((u).length) c_23],false⟩,⟨3,1,(GG g_25),1,1,[I sz],false⟩,(ru 5 A_22 ((u).length) c_23 u),⟨22,1,(GG g_21),2,2,[Value.slice A_u u.length c_u,Value.slice A_17 ((([]:List Int)).length) c_18],false⟩,(ru 5 A_17 ((([]:List Int)).length) c_18 ([]:List Int)),(ru 5 A_10 ((bQ sz).length) c_11 (bQ sz)),⟨22,1,(GG g_9),1,1,[.slice A1 n1 c1],false⟩,(ru 5 A1 n1 c1 acc),(ru 5 (GG g_6) 4 4 ([1,k%256,so%256,od%256])),⟨5,1,(GG g_4),4,4,ints .u8 ([87,72,82,76]),true⟩,⟨27,4,(GG g_2),1,1,[I k,I so,I od,I sz],false⟩,⟨25,2,(GG g_1),1,1,[.slice A_u u.length c_u, .slice none 0 0],false⟩]) (fun(kr:Nat) (A1:Option Addr) (n1:Nat) (c1:Nat) (acc:List Int)=>(n1=acc.length)∧(acc=(([87,72,82,76]++[1,k%256,so%256,od%256])++bQ sz)++kP k od sz.toNat u kr)) ?_ ?_ ?_ ?_
 ·exact⟨A_13,8+((bQ sz).length),c_14,(([87,72,82,76])++([1,k%256,so%256,od%256]))++(bQ sz),⟨(by rw[List.length_append];rfl),(by rw[zF,List.append_nil])⟩,fun _ h=>h⟩
 ·intro kr A1 n1 c1 acc w ⟨hn1,hacc⟩ hw
  exact⟨(rdr 0 Z) w hw,(rdr 1 Z) w hw,(rdr 2 Z) w hw⟩
 ·intro lr kr A1 n1 c1 acc WW1 hkr ⟨hn1,hacc⟩ hbW1
  have hkl:kr*sz.toNat<u.length:=(ZL (by omega)).1 (by assumption)
  have hkc:kr≤400:=Nat.le_trans (Nat.le_mul_of_pos_right kr (show 0<sz.toNat by omega)) (by omega)
  have hal:=congrArg List.length hacc
  rw[List.length_append,List.length_append,List.length_append] at hal
  have hbl:=nE (t:=k) (o:=od) (n:=sz.toNat) bh_u hN kr
  have hbm:(2*u.length+22)*kr≤822*400:=Nat.mul_le_mul (by omega) hkc
  have hbk:=JE (t:=k) (o:=od) (b:=(u.drop (kr*sz.toNat)).take sz.toNat) ((bh_u.drop _).take _) (by rw[List.length_take,List.length_drop];omega)
  have hbk3:((u.drop (kr*sz.toNat)).take sz.toNat).length≤u.length:=by rw[List.length_take,List.length_drop];omega
  have h8:([87,72,82,76]:List Int).length=4:=rfl
  have h9:([1,k%256,so%256,od%256]:List Int).length=4:=rfl
  refine aL<|wg Z<|aA ?_
  intro WW13 hbW13
  refine aI<|bT mixed<|wD 0 Z (aK (rdr 6 Z) underlying22 Z Z Z)<|wD 1 Z (aM Z)<|wD 2 Z (aC (off:=1) (m:=1) underlying25 Z vM Z Z Z)<|wD 3 Z (aK (rdr 11 Z) underlying23 Z Z Z)<|wD 4 Z (dZ (vs:=[I k,I so,I od,I sz]) (rdr 10 Z) underlying27 Z gL Z Z (Nat.le_of_ble_eq_true Z) Z)<|fO 5 Z (by kernel_rfl) Z (aD bEb Z (aIa (aFc (l:=kr*sz.toNat) (n:=sz.toNat) (rdr 2 Z) (by first|omega|(dsimp only;omega))) (by rw[List.length_take,List.length_drop]) ((bh_u.drop _).take _) (by rw[List.length_take,List.length_drop];omega) hp hk)) ?_
  rintro _ _ ⟨A_26,c_27,rfl,rfl⟩
  refine⟨.inr fun _ h=>h.right (R':=[_]),?_⟩
  refine fO 6 Z (by kernel_rfl) Z (bD 8 Z underlying22 zb5 Z Z Z (rdr 0 Z) (by omega)) ?_
  rintro _ _ ⟨A_28,c_29,rfl,rfl⟩
  refine⟨.inl (by kernel_rfl),?_⟩
  refine xC (R1:=[(ru 5 A_26 ((dO k od ((u.drop (kr*sz.toNat)).take sz.toNat)).length) c_27 (dO k od ((u.drop (kr*sz.toNat)).take sz.toNat))),⟨22,1,(GG g_24),1,1,[.slice A_22 ((u).length) c_23],false⟩,⟨3,1,(GG g_25),1,1,[I sz],false⟩,(ru 5 A_22 ((u).length) c_23 u),⟨22,1,(GG g_21),2,2,[Value.slice A_u u.length c_u,Value.slice A_17 ((([]:List Int)).length) c_18],false⟩,(ru 5 A_17 ((([]:List Int)).length) c_18 ([]:List Int)),(ru 5 A_10 ((bQ sz).length) c_11 (bQ sz)),⟨22,1,(GG g_9),1,1,[.slice A1 n1 c1],false⟩,(ru 5 A_28 (n1+((dO k od ((u.drop (kr*sz.toNat)).take sz.toNat)).length)) c_29 (acc++(dO k od ((u.drop (kr*sz.toNat)).take sz.toNat)))),(ru 5 (GG g_6) 4 4 ([1,k%256,so%256,od%256])),⟨5,1,(GG g_4),4,4,ints .u8 ([87,72,82,76]),true⟩,⟨27,4,(GG g_2),1,1,[I k,I so,I od,I sz],false⟩,⟨25,2,(GG g_1),1,1,[.slice A_u u.length c_u, .slice none 0 0],false⟩]) Z<|EI (v:= .slice A_28 (n1+((dO k od ((u.drop (kr*sz.toNat)).take sz.toNat)).length)) c_29) Z<|qJ 7 Z (by kernel_rfl) (bF 7 Z Z Z fP Z Z Z Z (Nat.le_of_ble_eq_true Z)) ?_
  rintro _ _ rfl
  refine⟨.inl (by kernel_rfl),?_⟩
  refine xC (R1:=[(ru 5 A_26 ((dO k od ((u.drop (kr*sz.toNat)).take sz.toNat)).length) c_27 (dO k od ((u.drop (kr*sz.toNat)).take sz.toNat))),⟨22,1,(GG g_24),1,1,[.slice A_22 ((u).length) c_23],false⟩,⟨3,1,(GG g_25),1,1,[I sz],false⟩,(ru 5 A_22 ((u).length) c_23 u),⟨22,1,(GG g_21),2,2,[Value.slice A_u u.length c_u,Value.slice A_17 ((([]:List Int)).length) c_18],false⟩,(ru 5 A_17 ((([]:List Int)).length) c_18 ([]:List Int)),(ru 5 A_10 ((bQ sz).length) c_11 (bQ sz)),⟨22,1,(GG g_9),1,1,[.slice A_28 (n1+((dO k od ((u.drop (kr*sz.toNat)).take sz.toNat)).length)) c_29],false⟩,(ru 5 A_28 (n1+((dO k od ((u.drop (kr*sz.toNat)).take sz.toNat)).length)) c_29 (acc++(dO k od ((u.drop (kr*sz.toNat)).take sz.toNat)))),(ru 5 (GG g_6) 4 4 ([1,k%256,so%256,od%256])),⟨5,1,(GG g_4),4,4,ints .u8 ([87,72,82,76]),true⟩,⟨27,4,(GG g_2),1,1,[I k,I so,I od,I sz],false⟩,⟨25,2,(GG g_1),1,1,[.slice A_u u.length c_u, .slice none 0 0],false⟩]) Z<|bP (by kernel_rfl) ?_
  exact⟨A_28,n1+((dO k od ((u.drop (kr*sz.toNat)).take sz.toNat)).length),c_29,acc++(dO k od ((u.drop (kr*sz.toNat)).take sz.toNat)),⟨(by rw[List.length_append,hn1]),(by rw[zG,←List.append_assoc,←hacc])⟩,fun _=>fun _ h=>h.sel [1,2,3,4,5,6,7,8,9,10,11,12] (by decide) Z⟩
 intro WW15 DW1 A1 n1 c1 acc ⟨hn1,hacc⟩ hbW15 hGW15
 refine aAv ?_
 refine aQn ?_
 refine v_w ?_
 refine aG<|bT mixed<|wD 0 Z (aK (rdr 6 Z) underlying22 Z Z Z)<|wD 2 Z (aM Z)<|wD 3 Z (aR underlying22 Z)<|fO 1 Z (by kernel_rfl) Z (aD KE Z (Ct.fresh (fun w hw=>kK (by decide)))) ?_
 rintro _ _ ⟨_,rfl,A_30,c_31,rfl,rfl⟩
 refine⟨.inr fun _ h=>h.right (R':=[_]),?_⟩
 refine fO 4 Z (by kernel_rfl) Z (aD KE Z (Ct.fresh (fun w hw=>kK (by omega)))) ?_
 rintro _ _ ⟨_,rfl,A_33,c_34,rfl,rfl⟩
 refine⟨.inr fun _ h=>h.right (R':=[_]),?_⟩
 refine fO 5 Z (by kernel_rfl) Z (nG [Value.slice A1 n1 c1,Value.slice A_30 ((bQ 0).length) c_31,Value.slice A_33 ((bQ (((u).length:Nat):Int)).length) c_34] underlying23 wV Z Z Z Z) ?_
 rintro _ _ ⟨g_37,rfl,rfl⟩
 refine⟨.inr fun _ h=>h.right (R':=[_]),?_⟩
 refine fO 6 Z (by kernel_rfl) Z (aD KD Z (Ct.fresh (fun w hw=>wP (u:=(mP k so od sz u)) ((rdr 0 Z) w hw) ((((jE _ _).snoc ((rdr 10 Z) w hw) (fun x hx=>fM ((aGz hacc hp.1 hp.2.1 (by omega) bh_u hN (by omega)) x hx)) (by have:=aCx hacc bh_u hS (by omega) (by omega);omega)).snoc ((rdr 2 Z) w hw) (fun x hx=>fM ((eY (by omega)) x hx)) (by decide)).snoc ((rdr 1 Z) w hw) (fun x hx=>fM ((eY (by omega)) x hx)) (by omega)) ⟨by have:=aCx hacc bh_u hS (by omega) (by omega);simp only[List.length_flatten,List.nil_append,List.cons_append,List.map_cons,List.map_nil,List.sum_cons,List.sum_nil];have h0:(bQ 0).length=1:=rfl;omega,by simp⟩ (aNz hacc hp.1 hp.2.1 (by omega))))) ?_
 rintro _ _ ⟨_,rfl,A_38,c_39,rfl,rfl⟩
 refine⟨.inr fun _ h=>h.right (R':=[_]),?_⟩
 refine wD 7 Z (bV Z)<|wD 8 Z (bV Z)<|bP (by kernel_rfl)<|bA [0] 99 (by decide) Z ?_
 refine aNs Z hGW15 ⟨_,_,Z,Z,?_⟩
 exact⟨_,_,Z,Z⟩
end Go.Proofs.YtdbebmmhdefgdaaGreat

