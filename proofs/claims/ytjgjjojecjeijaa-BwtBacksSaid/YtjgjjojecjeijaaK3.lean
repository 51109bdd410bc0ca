/- Walks of Go functions, printed by a program of our own. -/
import Derived.Test.YtjgjjojecjeijaaK2
import Derived.Test.YtjgjjojecjeijaaE8
namespace Go.Proofs.Ytjgjjojecjeijaa
open Go Go.Eng Go.Pure
set_option linter.unusedVariables false
theorem ban_order : ([5, 3, 1, 0, 4, 2] : List Int).Perm (iota ([98, 97, 110, 97, 110, 97] : List Int).length) ∧ ([5, 3, 1, 0, 4, 2] : List Int).Pairwise (ordE [98, 97, 110, 97, 110, 97]) := by
  refine ⟨by decide +kernel, ?_⟩
  have h : ([5, 3, 1, 0, 4, 2] : List Int).Pairwise (fun x y => cmpL (([98, 97, 110, 97, 110, 97] : List Int).drop x.toNat) (([98, 97, 110, 97, 110, 97] : List Int).drop y.toNat) < 0) := by decide +kernel
  exact h.imp fun h => ordE_cmp.1 h
theorem ban_ofL : ofL [98, 97, 110, 97, 110, 97] [5, 3, 1, 0, 4, 2] = [97, 110, 110, 98, 97, 97] ∧ zat [5, 3, 1, 0, 4, 2] = 4 := by
  refine ⟨?_, ?_⟩ <;> decide +kernel
theorem ban_byt : ByteL [98, 97, 110, 97, 110, 97] := by unfold ByteL; decide
/-! whorl/whorllaw21.known -/
set_option maxRecDepth 100000 in
theorem known21_ct {w : World}  :
    Ct Try.prog 13 #[] w.heap.size w [] (fun v R' => v = .bool true) := by
  refine fn1 Try.func13 rfl rfl rfl ?_
  refine w_seq ?_
  refine w_reg ?_
  refine wr_y rfl (y_assign rfl) ?_
  refine wr_nil ?_
  refine w_seq ?_
  refine w_reg ?_
  refine wr_a rfl (a_litI .u8 [98, 97, 110, 97, 110, 97] Try.underlying22 zs5 rfl rfl rfl) ?_
  rintro _ _ ⟨g_2, rfl, rfl⟩
  refine wr_a rfl (a_mark 0 rfl rfl Try.underlying22 Try.underlying5 rfl rfl) ?_
  rintro _ _ ⟨rfl, rfl⟩
  refine wr_rows (R1 := [⟨5, 1, (some ⟨g_2, 0, none⟩), 6, 6, ints .u8 ([98, 97, 110, 97, 110, 97]), true⟩]) rfl ?_
  refine wr_a rfl (a_callF en14 rfl (Ct.fresh (fun w hw => bturn_ct ((rdr 0 rfl) w hw) ban_byt (by show [98, 97, 110, 97, 110, 97].length ≤ 100000; decide)))) ?_
  rintro _ _ ⟨_, rfl, a1, A_3, c_4, rfl, hp_a1, hs_a1, rfl⟩
  refine wr_y rfl (y_move rfl) ?_
  refine wr_y rfl (y_extract rfl rfl) ?_
  refine wr_y rfl (y_extract rfl rfl) ?_
  refine wr_y rfl (y_extract rfl rfl) ?_
  refine wr_y rfl (y_assign rfl) ?_
  refine wr_y rfl (y_assign rfl) ?_
  refine wr_y rfl (y_assign rfl) ?_
  refine wr_nil ?_
  refine w_seq ?_
  refine w_reg ?_
  refine wr_y rfl (y_move rfl) ?_
  refine wr_y rfl (Yl.t (y_eq rfl rfl) (rfl)) ?_
  refine wr_y rfl (y_move rfl) ?_
  refine wr_yes rfl rfl ?_
  refine wr_y rfl (y_move rfl) ?_
  refine wr_yes rfl rfl ?_
  refine wr_y rfl (y_toStr Try.underlying22 Try.underlying5 Try.underlying9 rfl (rdr 0 rfl)) ?_
  refine wr_yes rfl rfl ?_
  refine wr_y rfl (Yl.t (y_eqL (q := [97, 110, 110, 98, 97, 97]) rfl rfl (ofL_byt ban_byt hp_a1) (by unfold ByteL; decide)) (by rw [one_orderE hp_a1 ban_order.1 hs_a1 ban_order.2]; exact ban_ofL.1)) ?_
  refine wr_y rfl (y_pickT rfl rfl) ?_
  refine wr_y rfl (y_move rfl) ?_
  refine wr_yes rfl rfl ?_
  refine wr_y rfl (y_move rfl) ?_
  refine wr_yes rfl rfl ?_
  refine wr_y rfl (Yl.t (y_eq rfl rfl) (by rw [one_orderE hp_a1 ban_order.1 hs_a1 ban_order.2]; exact ban_ofL.2)) ?_
  refine wr_y rfl (y_pickT rfl rfl) ?_
  refine wr_y rfl (y_assign rfl) ?_
  refine wr_nil ?_
  refine w_retR (R1 := []) (fun _ h => h.sel [] (by decide) rfl) ?_
  refine ⟨_, rfl, ?_⟩
  rfl

/-! whorl/whorllaw21.BwtTurns -/
set_option maxRecDepth 100000 in
set_option maxHeartbeats 600000 in
theorem bwtTurns_ct {w : World} {A_u : Option Addr} {n_u c_u : Nat} {u : List Int} (h_u : Rd w A_u n_u c_u 1 (ints .u8 u)) (bh_u : ByteL u) :
    Ct Try.prog 5 #[.slice A_u n_u c_u] w.heap.size w [] (fun v R' => v = .bool true) := by
  obtain rfl := h_u.lenI
  refine fn1 Try.func5 rfl rfl rfl ?_
  have m_u := h_u.max
  refine w_seq ?_
  refine w_reg ?_
  refine wr_y rfl (y_assign rfl) ?_
  refine wr_nil ?_
  refine w_seq ?_
  refine w_seq ?_
  refine w_reg ?_
  refine wr_y rfl (y_move rfl) ?_
  refine wr_y rfl (y_len Try.underlying22 rfl) ?_
  refine wr_y rfl (y_gt rfl rfl) ?_
  refine wr_nil ?_
  refine w_if rfl (fun hc1 => ?_) (fun hc1 => ?_)
  ·
    refine w_seq ?_
    refine w_reg ?_
    refine wr_y rfl (y_assign rfl) ?_
    refine wr_nil ?_
    refine w_ret ?_
    refine ⟨_, rfl, ?_⟩
    rfl
  ·
    refine w_skip ?_
    refine w_seq ?_
    refine w_reg ?_
    refine wr_y rfl (y_move rfl) ?_
    refine wr_a rfl (a_callF en14 rfl (Ct.fresh (fun w hw => bturn_ct ((h_u.c _) w hw) bh_u (by omega)))) ?_
    rintro _ _ ⟨_, rfl, a1, A_1, c_2, rfl, hp_a1, hs_a1, rfl⟩
    refine wr_y rfl (y_move rfl) ?_
    refine wr_y rfl (y_extract rfl rfl) ?_
    refine wr_y rfl (y_extract rfl rfl) ?_
    refine wr_y rfl (y_extract rfl rfl) ?_
    refine wr_y rfl (y_assign rfl) ?_
    refine wr_y rfl (y_assign rfl) ?_
    refine wr_y rfl (y_assign rfl) ?_
    refine wr_nil ?_
    refine w_seq ?_
    refine w_reg ?_
    refine wr_y rfl (y_move rfl) ?_
    refine wr_a rfl (a_callF en15 rfl (Ct.fresh (fun w hw => rturn_ct ((h_u.c _) w hw) bh_u (by omega)))) ?_
    rintro _ _ ⟨_, rfl, b1, A_4, c_5, rfl, hp_b1, hs_b1, rfl⟩
    refine wr_y rfl (y_move rfl) ?_
    refine wr_y rfl (y_extract rfl rfl) ?_
    refine wr_y rfl (y_extract rfl rfl) ?_
    refine wr_y rfl (y_assign rfl) ?_
    refine wr_y rfl (y_assign rfl) ?_
    refine wr_nil ?_
    refine w_seq ?_
    refine w_seq ?_
    refine w_reg ?_
    refine wr_y rfl (y_move rfl) ?_
    refine wr_y rfl (Yl.f (y_ne rfl rfl) (fun h => h rfl)) ?_
    refine wr_y rfl (y_move rfl) ?_
    refine wr_yes rfl rfl ?_
    refine wr_y rfl (y_move rfl) ?_
    refine wr_yes rfl rfl ?_
    refine wr_y rfl (y_toStr Try.underlying22 Try.underlying5 Try.underlying9 rfl (rdr 1 rfl)) ?_
    refine wr_yes rfl rfl ?_
    refine wr_y rfl (y_move rfl) ?_
    refine wr_yes rfl rfl ?_
    refine wr_y rfl (y_toStr Try.underlying22 Try.underlying5 Try.underlying9 rfl (rdr 0 rfl)) ?_
    refine wr_yes rfl rfl ?_
    refine wr_y rfl (Yl.f (y_neL rfl rfl (ofL_byt bh_u hp_a1) (ofL_byt bh_u hp_b1)) (fun h => h (by rw [one_orderE hp_a1 hp_b1 hs_a1 hs_b1]))) ?_
    refine wr_y rfl (y_pickF rfl rfl) ?_
    refine wr_y rfl (y_move rfl) ?_
    refine wr_yes rfl rfl ?_
    refine wr_y rfl (y_move rfl) ?_
    refine wr_yes rfl rfl ?_
    refine wr_y rfl (y_move rfl) ?_
    refine wr_yes rfl rfl ?_
    refine wr_y rfl (Yl.f (y_ne rfl rfl) (fun h => h (by rw [one_orderE hp_a1 hp_b1 hs_a1 hs_b1]))) ?_
    refine wr_y rfl (y_pickF rfl rfl) ?_
    refine wr_nil ?_
    refine w_false rfl ?_
    refine w_skip ?_
    refine w_seq ?_
    refine w_reg ?_
    refine wr_y rfl (y_move rfl) ?_
    refine wr_y rfl (y_move rfl) ?_
    refine wr_a rfl (a_callF en16 rfl (Ct.fresh (fun w hw => bback_ct ((rdr 1 rfl) w hw) (ofL_byt bh_u hp_a1) (turned_back bh_u hp_a1 hs_a1).1 (by rw [(of_facts hp_a1).1]; omega)))) ?_
    rintro _ _ ⟨_, rfl, A_7, c_8, rfl, rfl⟩
    refine wr_y rfl (y_move rfl) ?_
    refine wr_y rfl (y_extract rfl rfl) ?_
    refine wr_y rfl (y_extract rfl rfl) ?_
    refine wr_y rfl (y_assign rfl) ?_
    refine wr_y rfl (y_assign rfl) ?_
    refine wr_nil ?_
    refine w_seq ?_
    refine w_reg ?_
    refine wr_y rfl (y_move rfl) ?_
    refine wr_y rfl (Yl.t (y_eq rfl rfl) (rfl)) ?_
    refine wr_y rfl (y_move rfl) ?_
    refine wr_yes rfl rfl ?_
    refine wr_y rfl (y_move rfl) ?_
    refine wr_yes rfl rfl ?_
    refine wr_y rfl (y_toStr Try.underlying22 Try.underlying5 Try.underlying9 rfl (rdr 0 rfl)) ?_
    refine wr_yes rfl rfl ?_
    refine wr_y rfl (y_move rfl) ?_
    refine wr_yes rfl rfl ?_
    refine wr_y rfl (y_toStr Try.underlying22 Try.underlying5 Try.underlying9 rfl (h_u.c _)) ?_
    refine wr_yes rfl rfl ?_
    refine wr_y rfl (Yl.t (y_eqL rfl rfl (bkOut_byt (ofL_byt bh_u hp_a1) _) bh_u) ((turned_back bh_u hp_a1 hs_a1).2)) ?_
    refine wr_y rfl (y_pickT rfl rfl) ?_
    refine wr_y rfl (y_move rfl) ?_
    refine wr_yes rfl rfl ?_
    refine wr_a rfl (a_callF en13 rfl (Ct.quiet (fun w hw => known21_ct))) ?_
    rintro _ _ ⟨rfl, rfl⟩
    refine wr_y rfl (y_pickT rfl rfl) ?_
    refine wr_y rfl (y_assign rfl) ?_
    refine wr_nil ?_
    refine w_retR (R1 := []) (fun _ h => h.sel [] (by decide) rfl) ?_
    refine ⟨_, rfl, ?_⟩
    rfl

/-! whorl/whorllaw21.BwtOf -/
set_option maxRecDepth 100000 in
theorem bwtOfA_ct {w : World} {A_u : Option Addr} {n_u c_u : Nat} {u : List Int} {A_a : Option Addr} {n_a c_a : Nat} {a : List Int} (h_u : Rd w A_u n_u c_u 1 (ints .u8 u)) (h_a : Rd w A_a n_a c_a 1 (ints .i64 a)) (bh_u : ByteL u) (hp : a.Perm (iota u.length)) :
    Ct Try.prog 3 #[.slice A_u n_u c_u, .slice A_a n_a c_a] w.heap.size w [] (fun v R' => v = .bool true) := by
  obtain rfl := h_u.lenI
  obtain rfl := h_a.lenI
  refine fn1 Try.func3 rfl rfl rfl ?_
  have m_u := h_u.max
  have m_a := h_a.max
  refine w_seq ?_
  refine w_reg ?_
  refine wr_y rfl (y_assign rfl) ?_
  refine wr_nil ?_
  refine w_seq ?_
  refine w_seq ?_
  refine w_reg ?_
  refine wr_y rfl (y_move rfl) ?_
  refine wr_y rfl (y_len Try.underlying22 rfl) ?_
  refine wr_y rfl (y_gt rfl rfl) ?_
  refine wr_y rfl (y_move rfl) ?_
  refine wr_mid 4 [(0, .slice A_u u.length c_u), (1, .slice A_a a.length c_a), (18, .bool (decide ((200 < ((u.length : Nat) : Int)) ∨ (200 < ((a.length : Nat) : Int)))))] [] ?_ ?_
  ·
    refine wr_case 14 rfl (fun hc1 => ?_) (fun hc1 => ?_)
    ·
      refine wr_no rfl rfl rfl rfl ?_
      refine wr_no rfl rfl rfl rfl ?_
      refine wr_no rfl rfl rfl rfl ?_
      refine wr_y rfl (y_pickT rfl rfl) ?_
      refine wr_nil ?_
      exact ⟨(Sub.cons rfl (Sub.cons rfl (Sub.to rfl (mb_t (by first | omega | exact ⟨fun h => ⟨(by assumption), h⟩, fun h => h.2⟩ | simp [*])) Sub.nil))), fun _ h => h⟩
    ·
      refine wr_yes rfl rfl ?_
      refine wr_y rfl (y_move rfl) ?_
      refine wr_yes rfl rfl ?_
      refine wr_y rfl (y_len Try.underlying23 rfl) ?_
      refine wr_yes rfl rfl ?_
      refine wr_y rfl (y_gt rfl rfl) ?_
      refine wr_y rfl (y_pickF rfl rfl) ?_
      refine wr_nil ?_
      exact ⟨(Sub.cons rfl (Sub.cons rfl (Sub.to rfl (mb (by first | omega | exact ⟨fun h => ⟨(by assumption), h⟩, fun h => h.2⟩ | simp [*])) Sub.nil))), fun _ h => h⟩
  refine wr_nil ?_
  refine w_if rfl (fun hc2 => ?_) (fun hc2 => ?_)
  ·
    refine w_seq ?_
    refine w_reg ?_
    refine wr_y rfl (y_assign rfl) ?_
    refine wr_nil ?_
    refine w_ret ?_
    refine ⟨_, rfl, ?_⟩
    rfl
  ·
    refine w_skip ?_
    refine w_seq ?_
    refine w_reg ?_
    refine wr_y rfl (y_move rfl) ?_
    refine wr_y rfl (y_move rfl) ?_
    refine wr_a rfl (a_callF en11 rfl (Ct.fresh (fun w hw => bof_ct ((h_u.c _) w hw) ((h_a.c _) w hw) hp (by omega)))) ?_
    rintro _ _ ⟨_, rfl, A_1, c_2, rfl, rfl⟩
    refine wr_y rfl (y_move rfl) ?_
    refine wr_y rfl (y_extract rfl rfl) ?_
    refine wr_y rfl (y_extract rfl rfl) ?_
    refine wr_y rfl (y_extract rfl rfl) ?_
    refine wr_y rfl (y_assign rfl) ?_
    refine wr_y rfl (y_assign rfl) ?_
    refine wr_y rfl (y_assign rfl) ?_
    refine wr_nil ?_
    refine w_seq ?_
    refine w_reg ?_
    refine wr_y rfl (y_move rfl) ?_
    refine wr_y rfl (y_move rfl) ?_
    refine wr_a rfl (a_callF en12 rfl (Ct.fresh (fun w hw => rof_ct ((h_u.c _) w hw) ((h_a.c _) w hw) hp (by omega)))) ?_
    rintro _ _ ⟨_, rfl, A_4, c_5, rfl, rfl⟩
    refine wr_y rfl (y_move rfl) ?_
    refine wr_y rfl (y_extract rfl rfl) ?_
    refine wr_y rfl (y_extract rfl rfl) ?_
    refine wr_y rfl (y_extract rfl rfl) ?_
    refine wr_y rfl (y_assign rfl) ?_
    refine wr_y rfl (y_assign rfl) ?_
    refine wr_y rfl (y_assign rfl) ?_
    refine wr_nil ?_
    refine w_seq ?_
    refine w_reg ?_
    refine wr_y rfl (y_move rfl) ?_
    refine wr_y rfl (y_toStr Try.underlying22 Try.underlying5 Try.underlying9 rfl (rdr 1 rfl)) ?_
    refine wr_y rfl (y_move rfl) ?_
    refine wr_y rfl (y_toStr Try.underlying22 Try.underlying5 Try.underlying9 rfl (rdr 0 rfl)) ?_
    refine wr_y rfl (Yl.t (y_eqL rfl rfl (ofL_byt bh_u hp) (ofL_byt bh_u hp)) (rfl)) ?_
    refine wr_y rfl (y_move rfl) ?_
    refine wr_yes rfl rfl ?_
    refine wr_y rfl (y_move rfl) ?_
    refine wr_yes rfl rfl ?_
    refine wr_y rfl (y_move rfl) ?_
    refine wr_yes rfl rfl ?_
    refine wr_y rfl (Yl.t (y_eq rfl rfl) (rfl)) ?_
    refine wr_y rfl (y_pickT rfl rfl) ?_
    refine wr_y rfl (y_move rfl) ?_
    refine wr_yes rfl rfl ?_
    refine wr_y rfl (y_move rfl) ?_
    refine wr_yes rfl rfl ?_
    refine wr_y rfl (y_move rfl) ?_
    refine wr_yes rfl rfl ?_
    refine wr_y rfl (Yl.t (y_eqB Try.underlying4 rfl rfl) (rfl)) ?_
    refine wr_y rfl (y_pickT rfl rfl) ?_
    refine wr_y rfl (y_move rfl) ?_
    refine wr_yes rfl rfl ?_
    refine wr_a rfl (a_callF en13 rfl (Ct.quiet (fun w hw => known21_ct))) ?_
    rintro _ _ ⟨rfl, rfl⟩
    refine wr_y rfl (y_pickT rfl rfl) ?_
    refine wr_y rfl (y_assign rfl) ?_
    refine wr_nil ?_
    refine w_retR (R1 := []) (fun _ h => h.sel [] (by decide) rfl) ?_
    refine ⟨_, rfl, ?_⟩
    rfl

/-! whorl/whorllaw21.BwtOf -/
set_option maxRecDepth 100000 in
theorem bwtOfB_ct {w : World} {A_u : Option Addr} {n_u c_u : Nat} {u : List Int} {A_a : Option Addr} {n_a c_a : Nat} {a : List Int} (h_u : Rd w A_u n_u c_u 1 (ints .u8 u)) (h_a : Rd w A_a n_a c_a 1 (ints .i64 a)) (hnp : ¬ a.Perm (iota u.length)) :
    Ct Try.prog 3 #[.slice A_u n_u c_u, .slice A_a n_a c_a] w.heap.size w [] (fun v R' => v = .bool true) := by
  obtain rfl := h_u.lenI
  obtain rfl := h_a.lenI
  refine fn1 Try.func3 rfl rfl rfl ?_
  have m_u := h_u.max
  have m_a := h_a.max
  refine w_seq ?_
  refine w_reg ?_
  refine wr_y rfl (y_assign rfl) ?_
  refine wr_nil ?_
  refine w_seq ?_
  refine w_seq ?_
  refine w_reg ?_
  refine wr_y rfl (y_move rfl) ?_
  refine wr_y rfl (y_len Try.underlying22 rfl) ?_
  refine wr_y rfl (y_gt rfl rfl) ?_
  refine wr_y rfl (y_move rfl) ?_
  refine wr_mid 4 [(0, .slice A_u u.length c_u), (1, .slice A_a a.length c_a), (18, .bool (decide ((200 < ((u.length : Nat) : Int)) ∨ (200 < ((a.length : Nat) : Int)))))] [] ?_ ?_
  ·
    refine wr_case 14 rfl (fun hc1 => ?_) (fun hc1 => ?_)
    ·
      refine wr_no rfl rfl rfl rfl ?_
      refine wr_no rfl rfl rfl rfl ?_
      refine wr_no rfl rfl rfl rfl ?_
      refine wr_y rfl (y_pickT rfl rfl) ?_
      refine wr_nil ?_
      exact ⟨(Sub.cons rfl (Sub.cons rfl (Sub.to rfl (mb_t (by first | omega | exact ⟨fun h => ⟨(by assumption), h⟩, fun h => h.2⟩ | simp [*])) Sub.nil))), fun _ h => h⟩
    ·
      refine wr_yes rfl rfl ?_
      refine wr_y rfl (y_move rfl) ?_
      refine wr_yes rfl rfl ?_
      refine wr_y rfl (y_len Try.underlying23 rfl) ?_
      refine wr_yes rfl rfl ?_
      refine wr_y rfl (y_gt rfl rfl) ?_
      refine wr_y rfl (y_pickF rfl rfl) ?_
      refine wr_nil ?_
      exact ⟨(Sub.cons rfl (Sub.cons rfl (Sub.to rfl (mb (by first | omega | exact ⟨fun h => ⟨(by assumption), h⟩, fun h => h.2⟩ | simp [*])) Sub.nil))), fun _ h => h⟩
  refine wr_nil ?_
  refine w_if rfl (fun hc2 => ?_) (fun hc2 => ?_)
  ·
    refine w_seq ?_
    refine w_reg ?_
    refine wr_y rfl (y_assign rfl) ?_
    refine wr_nil ?_
    refine w_ret ?_
    refine ⟨_, rfl, ?_⟩
    rfl
  ·
    refine w_skip ?_
    refine w_seq ?_
    refine w_reg ?_
    refine wr_y rfl (y_move rfl) ?_
    refine wr_y rfl (y_move rfl) ?_
    refine wr_a rfl (a_callF en11 rfl (Ct.quiet (fun w hw => bofNo_ct ((h_u.c _) w hw) ((h_a.c _) w hw) hnp (by omega)))) ?_
    rintro _ _ ⟨rfl, rfl⟩
    refine wr_y rfl (y_move rfl) ?_
    refine wr_y rfl (y_extract rfl rfl) ?_
    refine wr_y rfl (y_extract rfl rfl) ?_
    refine wr_y rfl (y_extract rfl rfl) ?_
    refine wr_y rfl (y_assign rfl) ?_
    refine wr_y rfl (y_assign rfl) ?_
    refine wr_y rfl (y_assign rfl) ?_
    refine wr_nil ?_
    refine w_seq ?_
    refine w_reg ?_
    refine wr_y rfl (y_move rfl) ?_
    refine wr_y rfl (y_move rfl) ?_
    refine wr_a rfl (a_callF en12 rfl (Ct.quiet (fun w hw => rofNo_ct ((h_u.c _) w hw) ((h_a.c _) w hw) hnp (by omega)))) ?_
    rintro _ _ ⟨rfl, rfl⟩
    refine wr_y rfl (y_move rfl) ?_
    refine wr_y rfl (y_extract rfl rfl) ?_
    refine wr_y rfl (y_extract rfl rfl) ?_
    refine wr_y rfl (y_extract rfl rfl) ?_
    refine wr_y rfl (y_assign rfl) ?_
    refine wr_y rfl (y_assign rfl) ?_
    refine wr_y rfl (y_assign rfl) ?_
    refine wr_nil ?_
    refine w_seq ?_
    refine w_reg ?_
    refine wr_y rfl (y_move rfl) ?_
    refine wr_y rfl (y_toStr Try.underlying22 Try.underlying5 Try.underlying9 rfl (rd_nil _)) ?_
    refine wr_y rfl (y_move rfl) ?_
    refine wr_y rfl (y_toStr Try.underlying22 Try.underlying5 Try.underlying9 rfl (rd_nil _)) ?_
    refine wr_y rfl (Yl.t (y_eqL rfl rfl (fun _ h => by cases h) (fun _ h => by cases h)) (rfl)) ?_
    refine wr_y rfl (y_move rfl) ?_
    refine wr_yes rfl rfl ?_
    refine wr_y rfl (y_move rfl) ?_
    refine wr_yes rfl rfl ?_
    refine wr_y rfl (y_move rfl) ?_
    refine wr_yes rfl rfl ?_
    refine wr_y rfl (Yl.t (y_eq rfl rfl) (rfl)) ?_
    refine wr_y rfl (y_pickT rfl rfl) ?_
    refine wr_y rfl (y_move rfl) ?_
    refine wr_yes rfl rfl ?_
    refine wr_y rfl (y_move rfl) ?_
    refine wr_yes rfl rfl ?_
    refine wr_y rfl (y_move rfl) ?_
    refine wr_yes rfl rfl ?_
    refine wr_y rfl (Yl.t (y_eqB Try.underlying4 rfl rfl) (rfl)) ?_
    refine wr_y rfl (y_pickT rfl rfl) ?_
    refine wr_y rfl (y_move rfl) ?_
    refine wr_yes rfl rfl ?_
    refine wr_a rfl (a_callF en13 rfl (Ct.quiet (fun w hw => known21_ct))) ?_
    rintro _ _ ⟨rfl, rfl⟩
    refine wr_y rfl (y_pickT rfl rfl) ?_
    refine wr_y rfl (y_assign rfl) ?_
    refine wr_nil ?_
    refine w_ret ?_
    refine ⟨_, rfl, ?_⟩
    rfl

theorem bwtOf_ct {w : World} {A_u : Option Addr} {n_u c_u : Nat} {u : List Int} {A_a : Option Addr} {n_a c_a : Nat} {a : List Int} (h_u : Rd w A_u n_u c_u 1 (ints .u8 u)) (h_a : Rd w A_a n_a c_a 1 (ints .i64 a)) (bh_u : ByteL u) :
    Ct Try.prog 3 #[.slice A_u n_u c_u, .slice A_a n_a c_a] w.heap.size w [] (fun v R' => v = .bool true) := by
  by_cases hcase : a.Perm (iota u.length)
  · exact bwtOfA_ct h_u h_a bh_u hcase
  · exact bwtOfB_ct h_u h_a hcase
/-! whorl/whorllaw21.BwtBacks -/
set_option maxRecDepth 100000 in
theorem bwtBacksA_ct {w : World} {A_u : Option Addr} {n_u c_u : Nat} {u : List Int} {m : Int} (h_u : Rd w A_u n_u c_u 1 (ints .u8 u)) (bh_u : ByteL u) (hok : BkOk u m) :
    Ct Try.prog 6 #[.slice A_u n_u c_u, .int .i64 m] w.heap.size w [] (fun v R' => v = .bool true) := by
  obtain rfl := h_u.lenI
  refine fn1 Try.func6 rfl rfl rfl ?_
  have m_u := h_u.max
  refine w_seq ?_
  refine w_reg ?_
  refine wr_y rfl (y_assign rfl) ?_
  refine wr_nil ?_
  refine w_seq ?_
  refine w_seq ?_
  refine w_reg ?_
  refine wr_y rfl (y_move rfl) ?_
  refine wr_y rfl (y_len Try.underlying22 rfl) ?_
  refine wr_y rfl (y_gt rfl rfl) ?_
  refine wr_nil ?_
  refine w_if rfl (fun hc1 => ?_) (fun hc1 => ?_)
  ·
    refine w_seq ?_
    refine w_reg ?_
    refine wr_y rfl (y_assign rfl) ?_
    refine wr_nil ?_
    refine w_ret ?_
    refine ⟨_, rfl, ?_⟩
    rfl
  ·
    refine w_skip ?_
    refine w_seq ?_
    refine w_reg ?_
    refine wr_a rfl (a_litI .u8 [] Try.underlying22 zs5 rfl rfl rfl) ?_
    rintro _ _ ⟨g_2, rfl, rfl⟩
    refine wr_y rfl (y_move rfl) ?_
    refine wr_a rfl (a_appendI 0 rfl Try.underlying22 zb5 rfl rfl rfl (h_u.c _) (by omega)) ?_
    rintro _ _ ⟨A_3, c_4, rfl, rfl⟩
    refine wr_rows (R1 := [⟨5, 1, A_3, (0 + u.length), c_4, ints .u8 (([]) ++ u), false⟩]) rfl ?_
    refine wr_as (v := .slice A_3 (0 + u.length) c_4) rfl ?_
    refine wr_y rfl (y_move rfl) ?_
    refine wr_a rfl (a_callF en16 rfl (Ct.fresh (fun w hw => bback_ct ((rdr 0 rfl) w hw) bh_u hok (by show u.length ≤ 100000; omega)))) ?_
    rintro _ _ ⟨_, rfl, A_5, c_6, rfl, rfl⟩
    refine wr_y rfl (y_move rfl) ?_
    refine wr_y rfl (y_extract rfl rfl) ?_
    refine wr_y rfl (y_extract rfl rfl) ?_
    refine wr_y rfl (y_assign rfl) ?_
    refine wr_y rfl (y_assign rfl) ?_
    refine wr_nil ?_
    refine w_seq ?_
    refine w_reg ?_
    refine wr_y rfl (y_move rfl) ?_
    refine wr_y rfl (y_move rfl) ?_
    refine wr_a rfl (a_callF en17 rfl (Ct.fresh (fun w hw => rback_ct ((h_u.c _) w hw) bh_u hok (by omega)))) ?_
    rintro _ _ ⟨_, rfl, A_8, c_9, rfl, rfl⟩
    refine wr_y rfl (y_move rfl) ?_
    refine wr_y rfl (y_extract rfl rfl) ?_
    refine wr_y rfl (y_extract rfl rfl) ?_
    refine wr_y rfl (y_assign rfl) ?_
    refine wr_y rfl (y_assign rfl) ?_
    refine wr_nil ?_
    refine w_seq ?_
    refine w_reg ?_
    refine wr_y rfl (y_move rfl) ?_
    refine wr_y rfl (y_toStr Try.underlying22 Try.underlying5 Try.underlying9 rfl (rdr 1 rfl)) ?_
    refine wr_y rfl (y_move rfl) ?_
    refine wr_y rfl (y_toStr Try.underlying22 Try.underlying5 Try.underlying9 rfl (rdr 0 rfl)) ?_
    refine wr_y rfl (Yl.t (y_eqL rfl rfl (bkOut_byt bh_u m) (bkOut_byt bh_u m)) (rfl)) ?_
    refine wr_y rfl (y_move rfl) ?_
    refine wr_yes rfl rfl ?_
    refine wr_y rfl (y_move rfl) ?_
    refine wr_yes rfl rfl ?_
    refine wr_y rfl (y_move rfl) ?_
    refine wr_yes rfl rfl ?_
    refine wr_y rfl (Yl.t (y_eq rfl rfl) (rfl)) ?_
    refine wr_y rfl (y_pickT rfl rfl) ?_
    refine wr_y rfl (y_move rfl) ?_
    refine wr_yes rfl rfl ?_
    refine wr_a rfl (a_callF en13 rfl (Ct.quiet (fun w hw => known21_ct))) ?_
    rintro _ _ ⟨rfl, rfl⟩
    refine wr_y rfl (y_pickT rfl rfl) ?_
    refine wr_y rfl (y_assign rfl) ?_
    refine wr_nil ?_
    refine w_retR (R1 := []) (fun _ h => h.sel [] (by decide) rfl) ?_
    refine ⟨_, rfl, ?_⟩
    rfl

/-! whorl/whorllaw21.BwtBacks -/
set_option maxRecDepth 100000 in
theorem bwtBacksB_ct {w : World} {A_u : Option Addr} {n_u c_u : Nat} {u : List Int} {m : Int} (h_u : Rd w A_u n_u c_u 1 (ints .u8 u)) (bh_u : ByteL u) (hno : ¬ BkOk u m) :
    Ct Try.prog 6 #[.slice A_u n_u c_u, .int .i64 m] w.heap.size w [] (fun v R' => v = .bool true) := by
  obtain rfl := h_u.lenI
  refine fn1 Try.func6 rfl rfl rfl ?_
  have m_u := h_u.max
  refine w_seq ?_
  refine w_reg ?_
  refine wr_y rfl (y_assign rfl) ?_
  refine wr_nil ?_
  refine w_seq ?_
  refine w_seq ?_
  refine w_reg ?_
  refine wr_y rfl (y_move rfl) ?_
  refine wr_y rfl (y_len Try.underlying22 rfl) ?_
  refine wr_y rfl (y_gt rfl rfl) ?_
  refine wr_nil ?_
  refine w_if rfl (fun hc1 => ?_) (fun hc1 => ?_)
  ·
    refine w_seq ?_
    refine w_reg ?_
    refine wr_y rfl (y_assign rfl) ?_
    refine wr_nil ?_
    refine w_ret ?_
    refine ⟨_, rfl, ?_⟩
    rfl
  ·
    refine w_skip ?_
    refine w_seq ?_
    refine w_reg ?_
    refine wr_a rfl (a_litI .u8 [] Try.underlying22 zs5 rfl rfl rfl) ?_
    rintro _ _ ⟨g_2, rfl, rfl⟩
    refine wr_y rfl (y_move rfl) ?_
    refine wr_a rfl (a_appendI 0 rfl Try.underlying22 zb5 rfl rfl rfl (h_u.c _) (by omega)) ?_
    rintro _ _ ⟨A_3, c_4, rfl, rfl⟩
    refine wr_rows (R1 := [⟨5, 1, A_3, (0 + u.length), c_4, ints .u8 (([]) ++ u), false⟩]) rfl ?_
    refine wr_as (v := .slice A_3 (0 + u.length) c_4) rfl ?_
    refine wr_y rfl (y_move rfl) ?_
    refine wr_a rfl (a_callF en16 rfl (Ct.quiet (fun w hw => bbackNo_ct ((rdr 0 rfl) w hw) bh_u hno (by show u.length ≤ 100000; omega)))) ?_
    rintro _ _ ⟨rfl, rfl⟩
    refine wr_y rfl (y_move rfl) ?_
    refine wr_y rfl (y_extract rfl rfl) ?_
    refine wr_y rfl (y_extract rfl rfl) ?_
    refine wr_y rfl (y_assign rfl) ?_
    refine wr_y rfl (y_assign rfl) ?_
    refine wr_nil ?_
    refine w_seq ?_
    refine w_reg ?_
    refine wr_y rfl (y_move rfl) ?_
    refine wr_y rfl (y_move rfl) ?_
    refine wr_a rfl (a_callF en17 rfl (Ct.quiet (fun w hw => rbackNo_ct ((h_u.c _) w hw) bh_u hno (by omega)))) ?_
    rintro _ _ ⟨rfl, rfl⟩
    refine wr_y rfl (y_move rfl) ?_
    refine wr_y rfl (y_extract rfl rfl) ?_
    refine wr_y rfl (y_extract rfl rfl) ?_
    refine wr_y rfl (y_assign rfl) ?_
    refine wr_y rfl (y_assign rfl) ?_
    refine wr_nil ?_
    refine w_seq ?_
    refine w_reg ?_
    refine wr_y rfl (y_move rfl) ?_
    refine wr_y rfl (y_toStr Try.underlying22 Try.underlying5 Try.underlying9 rfl (rd_nil _)) ?_
    refine wr_y rfl (y_move rfl) ?_
    refine wr_y rfl (y_toStr Try.underlying22 Try.underlying5 Try.underlying9 rfl (rd_nil _)) ?_
    refine wr_y rfl (Yl.t (y_eqL rfl rfl (fun _ h => by cases h) (fun _ h => by cases h)) (rfl)) ?_
    refine wr_y rfl (y_move rfl) ?_
    refine wr_yes rfl rfl ?_
    refine wr_y rfl (y_move rfl) ?_
    refine wr_yes rfl rfl ?_
    refine wr_y rfl (y_move rfl) ?_
    refine wr_yes rfl rfl ?_
    refine wr_y rfl (Yl.t (y_eq rfl rfl) (rfl)) ?_
    refine wr_y rfl (y_pickT rfl rfl) ?_
    refine wr_y rfl (y_move rfl) ?_
    refine wr_yes rfl rfl ?_
    refine wr_a rfl (a_callF en13 rfl (Ct.quiet (fun w hw => known21_ct))) ?_
    rintro _ _ ⟨rfl, rfl⟩
    refine wr_y rfl (y_pickT rfl rfl) ?_
    refine wr_y rfl (y_assign rfl) ?_
    refine wr_nil ?_
    refine w_retR (R1 := []) (fun _ h => h.sel [] (by decide) rfl) ?_
    refine ⟨_, rfl, ?_⟩
    rfl

theorem bwtBacks_ct {w : World} {A_u : Option Addr} {n_u c_u : Nat} {u : List Int} {m : Int} (h_u : Rd w A_u n_u c_u 1 (ints .u8 u)) (bh_u : ByteL u) :
    Ct Try.prog 6 #[.slice A_u n_u c_u, .int .i64 m] w.heap.size w [] (fun v R' => v = .bool true) := by
  by_cases hcase : BkOk u m
  · exact bwtBacksA_ct h_u bh_u hcase
  · exact bwtBacksB_ct h_u bh_u hcase
/-! whorl/whorllaw21.BwtOnce -/
set_option maxRecDepth 100000 in
set_option maxHeartbeats 600000 in
theorem bwtOnce_ct {w : World} {A_u : Option Addr} {n_u c_u : Nat} {u : List Int} (h_u : Rd w A_u n_u c_u 1 (ints .u8 u)) (bh_u : ByteL u) :
    Ct Try.prog 7 #[.slice A_u n_u c_u] w.heap.size w [] (fun v R' => v = .bool true) := by
  obtain rfl := h_u.lenI
  refine fn1 Try.func7 rfl rfl rfl ?_
  have m_u := h_u.max
  refine w_seq ?_
  refine w_reg ?_
  refine wr_y rfl (y_assign rfl) ?_
  refine wr_nil ?_
  refine w_seq ?_
  refine w_seq ?_
  refine w_reg ?_
  refine wr_y rfl (y_move rfl) ?_
  refine wr_y rfl (y_len Try.underlying22 rfl) ?_
  refine wr_y rfl (y_gt rfl rfl) ?_
  refine wr_nil ?_
  refine w_if rfl (fun hc1 => ?_) (fun hc1 => ?_)
  ·
    refine w_seq ?_
    refine w_reg ?_
    refine wr_y rfl (y_assign rfl) ?_
    refine wr_nil ?_
    refine w_ret ?_
    refine ⟨_, rfl, ?_⟩
    rfl
  ·
    refine w_skip ?_
    refine w_seq ?_
    refine w_seq ?_
    refine w_reg ?_
    refine wr_y rfl (y_assign rfl) ?_
    refine wr_nil ?_
    refine w_block ?_
    refine w_loop1 (fun (m : Int) => [(0, .slice A_u u.length c_u), (3, .int .i64 m)]) (fun (m : Int) => []) (fun (m : Int) => (-1 ≤ m) ∧ (m ≤ u.length + 2)) (fun (m : Int) => (u.length + 2 - m).toNat) ?_ ?_
    ·
      exact ⟨-1, ⟨(by omega), (by omega)⟩, (Sub.cons rfl (Sub.cons rfl Sub.nil)), fun _ h => h⟩
    intro m ⟨hm0, hm1⟩
    refine w_seq ?_
    refine w_seq ?_
    refine w_reg ?_
    refine wr_y rfl (y_move rfl) ?_
    refine wr_y rfl (y_move rfl) ?_
    refine wr_y rfl (y_len Try.underlying22 rfl) ?_
    refine wr_y rfl (y_addI rfl rfl (by omega)) ?_
    refine wr_y rfl (y_le rfl rfl) ?_
    refine wr_nil ?_
    refine w_if rfl (fun hc2 => ?_) (fun hc2 => ?_)
    ·
      refine w_skip ?_
      refine w_seq ?_
      refine w_block ?_
      refine w_seq ?_
      refine w_reg ?_
      refine wr_y rfl (y_move rfl) ?_
      refine wr_y rfl (y_move rfl) ?_
      refine (Classical.em (BkOk u m)).elim (fun hok => ?_) (fun hok => ?_)
      ·
        refine wr_a rfl (a_callF en16 rfl (Ct.fresh (fun w hw => bback_ct ((h_u.c _) w hw) bh_u hok (by omega)))) ?_
        rintro _ _ ⟨_, rfl, A_1, c_2, rfl, rfl⟩
        refine wr_y rfl (y_move rfl) ?_
        refine wr_y rfl (y_extract rfl rfl) ?_
        refine wr_y rfl (y_extract rfl rfl) ?_
        refine wr_y rfl (y_assign rfl) ?_
        refine wr_y rfl (y_assign rfl) ?_
        refine wr_nil ?_
        refine w_seq ?_
        refine w_seq ?_
        refine w_reg ?_
        refine wr_y rfl (y_move rfl) ?_
        refine wr_y rfl (Yl.f (y_ne rfl rfl) (fun h => h rfl)) ?_
        refine wr_nil ?_
        refine w_false rfl ?_
        refine w_skip ?_
        refine w_seq ?_
        refine w_reg ?_
        refine wr_y rfl (y_move rfl) ?_
        refine wr_a rfl (a_callF en14 rfl (Ct.fresh (fun w hw => bturn_ct ((rdr 0 rfl) w hw) (bkOut_byt bh_u m) (by rw [bkOut_len]; omega)))) ?_
        rintro _ _ ⟨_, rfl, a1, A_4, c_5, rfl, hp_a1, hs_a1, rfl⟩
        refine wr_y rfl (y_move rfl) ?_
        refine wr_y rfl (y_extract rfl rfl) ?_
        refine wr_y rfl (y_extract rfl rfl) ?_
        refine wr_y rfl (y_extract rfl rfl) ?_
        refine wr_y rfl (y_assign rfl) ?_
        refine wr_y rfl (y_assign rfl) ?_
        refine wr_y rfl (y_assign rfl) ?_
        refine wr_nil ?_
        refine w_seq ?_
        refine w_reg ?_
        refine wr_y rfl (y_move rfl) ?_
        refine wr_y rfl (Yl.f (y_ne rfl rfl) (fun h => h rfl)) ?_
        refine wr_y rfl (y_move rfl) ?_
        refine wr_yes rfl rfl ?_
        refine wr_y rfl (y_move rfl) ?_
        refine wr_yes rfl rfl ?_
        refine wr_y rfl (y_toStr Try.underlying22 Try.underlying5 Try.underlying9 rfl (rdr 0 rfl)) ?_
        refine wr_yes rfl rfl ?_
        refine wr_y rfl (y_move rfl) ?_
        refine wr_yes rfl rfl ?_
        refine wr_y rfl (y_toStr Try.underlying22 Try.underlying5 Try.underlying9 rfl (h_u.c _)) ?_
        refine wr_yes rfl rfl ?_
        refine wr_y rfl (Yl.f (y_neL rfl rfl (ofL_byt (bkOut_byt bh_u m) hp_a1) bh_u) (fun h => h (back_turned bh_u hok hp_a1 hs_a1).1)) ?_
        refine wr_y rfl (y_pickF rfl rfl) ?_
        refine wr_y rfl (y_move rfl) ?_
        refine wr_yes rfl rfl ?_
        refine wr_y rfl (y_move rfl) ?_
        refine wr_yes rfl rfl ?_
        refine wr_y rfl (y_move rfl) ?_
        refine wr_yes rfl rfl ?_
        refine wr_y rfl (Yl.f (y_ne rfl rfl) (fun h => h (back_turned bh_u hok hp_a1 hs_a1).2)) ?_
        refine wr_y rfl (y_pickF rfl rfl) ?_
        refine wr_nil ?_
        refine w_false rfl ?_
        refine w_skip ?_
        refine w_reg ?_
        refine wr_y rfl (y_move rfl) ?_
        refine wr_y rfl (y_addI rfl rfl (by omega)) ?_
        refine wr_y rfl (y_assign rfl) ?_
        refine wr_nil ?_
        exact ⟨m + 1, ⟨(by omega), (by omega)⟩, (by omega), (Sub.cons rfl (Sub.cons rfl Sub.nil)), fun _ h => h.sel [] (by decide) rfl⟩
      ·
        refine wr_a rfl (a_callF en16 rfl (Ct.quiet (fun w hw => bbackNo_ct ((h_u.c _) w hw) bh_u hok (by omega)))) ?_
        rintro _ _ ⟨rfl, rfl⟩
        refine wr_y rfl (y_move rfl) ?_
        refine wr_y rfl (y_extract rfl rfl) ?_
        refine wr_y rfl (y_extract rfl rfl) ?_
        refine wr_y rfl (y_assign rfl) ?_
        refine wr_y rfl (y_assign rfl) ?_
        refine wr_nil ?_
        refine w_seq ?_
        refine w_seq ?_
        refine w_reg ?_
        refine wr_y rfl (y_move rfl) ?_
        refine wr_y rfl (Yl.t (y_ne rfl rfl) (by omega)) ?_
        refine wr_nil ?_
        refine w_true rfl ?_
        refine w_seq ?_
        refine w_seq ?_
        refine w_reg ?_
        refine wr_y rfl (y_move rfl) ?_
        refine wr_y rfl (Yl.f (y_ne rfl rfl) (fun h => h rfl)) ?_
        refine wr_y rfl (y_move rfl) ?_
        refine wr_yes rfl rfl ?_
        refine wr_y rfl (y_move rfl) ?_
        refine wr_yes rfl rfl ?_
        refine wr_y rfl (y_len Try.underlying22 rfl) ?_
        refine wr_yes rfl rfl ?_
        refine wr_y rfl (Yl.f (y_ne rfl rfl) (fun h => h rfl)) ?_
        refine wr_y rfl (y_pickF rfl rfl) ?_
        refine wr_nil ?_
        refine w_false rfl ?_
        refine w_skip ?_
        refine w_exit ?_
        refine w_reg ?_
        refine wr_y rfl (y_move rfl) ?_
        refine wr_y rfl (y_addI rfl rfl (by omega)) ?_
        refine wr_y rfl (y_assign rfl) ?_
        refine wr_nil ?_
        exact ⟨m + 1, ⟨(by omega), (by omega)⟩, (by omega), (Sub.cons rfl (Sub.cons rfl Sub.nil)), fun _ h => h⟩
    ·
      refine w_exit ?_
      refine w_seq ?_
      refine w_reg ?_
      refine wr_a rfl (a_callF en13 rfl (Ct.quiet (fun w hw => known21_ct))) ?_
      rintro _ _ ⟨rfl, rfl⟩
      refine wr_y rfl (y_assign rfl) ?_
      refine wr_nil ?_
      refine w_ret ?_
      refine ⟨_, rfl, ?_⟩
      rfl

/-! whorl/whorllaw21.BwtLetters -/
set_option maxRecDepth 100000 in
set_option maxHeartbeats 1000000 in
theorem bwtLetters_ct {w : World} {A_u : Option Addr} {n_u c_u : Nat} {u : List Int} (h_u : Rd w A_u n_u c_u 1 (ints .u8 u)) (bh_u : ByteL u) :
    Ct Try.prog 4 #[.slice A_u n_u c_u] w.heap.size w [] (fun v R' => v = .bool true) := by
  obtain rfl := h_u.lenI
  refine fn1 Try.func4 rfl rfl rfl ?_
  have m_u := h_u.max
  refine w_seq ?_
  refine w_reg ?_
  refine wr_y rfl (y_assign rfl) ?_
  refine wr_nil ?_
  refine w_seq ?_
  refine w_seq ?_
  refine w_reg ?_
  refine wr_y rfl (y_move rfl) ?_
  refine wr_y rfl (y_len Try.underlying22 rfl) ?_
  refine wr_y rfl (y_gt rfl rfl) ?_
  refine wr_nil ?_
  refine w_if rfl (fun hc1 => ?_) (fun hc1 => ?_)
  ·
    refine w_seq ?_
    refine w_reg ?_
    refine wr_y rfl (y_assign rfl) ?_
    refine wr_nil ?_
    refine w_ret ?_
    refine ⟨_, rfl, ?_⟩
    rfl
  ·
    refine w_skip ?_
    refine w_seq ?_
    refine w_reg ?_
    refine wr_y rfl (y_move rfl) ?_
    refine wr_a rfl (a_callF en14 rfl (Ct.fresh (fun w hw => bturn_ct ((h_u.c _) w hw) bh_u (by omega)))) ?_
    rintro _ _ ⟨_, rfl, a1, A_1, c_2, rfl, hp_a1, hs_a1, rfl⟩
    refine wr_y rfl (y_move rfl) ?_
    refine wr_y rfl (y_extract rfl rfl) ?_
    refine wr_y rfl (y_extract rfl rfl) ?_
    refine wr_y rfl (y_extract rfl rfl) ?_
    refine wr_y rfl (y_assign rfl) ?_
    refine wr_y rfl (y_assign rfl) ?_
    refine wr_y rfl (y_assign rfl) ?_
    refine wr_nil ?_
    refine w_seq ?_
    refine w_seq ?_
    refine w_reg ?_
    refine wr_y rfl (y_move rfl) ?_
    refine wr_y rfl (Yl.f (y_ne rfl rfl) (fun h => h rfl)) ?_
    refine wr_y rfl (y_move rfl) ?_
    refine wr_yes rfl rfl ?_
    refine wr_y rfl (y_move rfl) ?_
    refine wr_yes rfl rfl ?_
    refine wr_y rfl (y_len Try.underlying22 rfl) ?_
    refine wr_yes rfl rfl ?_
    refine wr_y rfl (y_move rfl) ?_
    refine wr_yes rfl rfl ?_
    refine wr_y rfl (y_len Try.underlying22 rfl) ?_
    refine wr_yes rfl rfl ?_
    refine wr_y rfl (Yl.f (y_ne rfl rfl) (by have := (of_facts hp_a1).1; omega)) ?_
    refine wr_y rfl (y_pickF rfl rfl) ?_
    refine wr_y rfl (y_move rfl) ?_
    refine wr_yes rfl rfl ?_
    refine wr_y rfl (y_move rfl) ?_
    refine wr_yes rfl rfl ?_
    refine wr_y rfl (Yl.f (y_lt rfl rfl) (by have h1 := (of_facts hp_a1).2.1; have h2 := (of_facts hp_a1).2.2.1; omega)) ?_
    refine wr_y rfl (y_pickF rfl rfl) ?_
    refine wr_y rfl (y_move rfl) ?_
    refine wr_yes rfl rfl ?_
    refine wr_y rfl (y_move rfl) ?_
    refine wr_yes rfl rfl ?_
    refine wr_y rfl (y_move rfl) ?_
    refine wr_yes rfl rfl ?_
    refine wr_y rfl (y_len Try.underlying22 rfl) ?_
    refine wr_yes rfl rfl ?_
    refine wr_y rfl (Yl.f (y_gt rfl rfl) (by have h1 := (of_facts hp_a1).2.1; have h2 := (of_facts hp_a1).2.2.1; omega)) ?_
    refine wr_y rfl (y_pickF rfl rfl) ?_
    refine wr_nil ?_
    refine w_false rfl ?_
    refine w_skip ?_
    refine w_seq ?_
    refine w_reg ?_
    refine wr_a rfl (a_alloc (sz := 256) zz31 rfl) ?_
    rintro _ _ ⟨g_4, rfl, rfl⟩
    refine wr_rows (R1 := [⟨31, 256, (some ⟨g_4, 0, none⟩), 1, 1, ints .i64 (List.replicate 256 (0 : Int)), false⟩, ⟨5, 1, A_1, (ofL u a1).length, c_2, ints .u8 (ofL u a1), false⟩]) rfl ?_
    refine wr_nil ?_
    refine w_seq ?_
    refine w_seq ?_
    refine w_reg ?_
    refine wr_y rfl (y_assign rfl) ?_
    refine wr_nil ?_
    refine w_block ?_
    refine w_loop2 (fun (i : Int) (V : List Int) => [(0, .slice A_u u.length c_u), (3, .slice A_1 ((ofL u a1).length) c_2), (4, .int .i64 (zat a1)), (6, .pointer (some ⟨g_4, 0, none⟩)), (7, .int .i64 i)]) (fun (i : Int) (V : List Int) => [⟨31, 256, (some ⟨g_4, 0, none⟩), 1, 1, ints .i64 V, false⟩, ⟨5, 1, A_1, (ofL u a1).length, c_2, ints .u8 (ofL u a1), false⟩]) (fun (i : Int) (V : List Int) => (0 ≤ i) ∧ (i ≤ u.length) ∧ (V.length = 256) ∧ (CntI u (ofL u a1) i V)) (fun (i : Int) (V : List Int) => (u.length - i).toNat) ?_ ?_
    ·
      exact ⟨0, List.replicate 256 (0 : Int), ⟨(by omega), (by omega), (rfl), (cntI_zero)⟩, (Sub.cons rfl (Sub.cons rfl (Sub.cons rfl (Sub.cons rfl (Sub.cons rfl Sub.nil))))), fun _ h => h⟩
    intro i V ⟨hi0, hi1, hVl, hV⟩
    have hof := of_facts hp_a1
    have hol := hof.1
    have hlm := ofL_perm hp_a1 hs_a1
    have hlb : ByteL (ofL u a1) := ofL_byt bh_u hp_a1
    refine w_seq ?_
    refine w_seq ?_
    refine w_reg ?_
    refine wr_y rfl (y_move rfl) ?_
    refine wr_y rfl (y_move rfl) ?_
    refine wr_y rfl (y_len Try.underlying22 rfl) ?_
    refine wr_y rfl (y_lt rfl rfl) ?_
    refine wr_nil ?_
    refine w_if rfl (fun hc2 => ?_) (fun hc2 => ?_)
    ·
      have hb1 := bh_u.rd i
      have hb2 := hlb.rd i
      have hv1 := hV.bound (by omega) hb1.1 hb1.2
      have hv2 : -2000 ≤ rd (upd V (rd u i) (rd V (rd u i) + 1)) (rd (ofL u a1) i) ∧ rd (upd V (rd u i) (rd V (rd u i) + 1)) (rd (ofL u a1) i) ≤ 2000 := by rw [rd_upd hb1.1 hb2.1 (by omega)]; have := hV.bound (by omega) hb2.1 hb2.2; split <;> omega
      have hvl2 : (upd V (rd u i) (rd V (rd u i) + 1)).length = 256 := by rw [upd_length]; exact hVl
      refine w_skip ?_
      refine w_seq ?_
      refine w_block ?_
      refine w_seq ?_
      refine w_reg ?_
      refine wr_y rfl (y_move rfl) ?_
      refine wr_y rfl (y_move rfl) ?_
      refine wr_y rfl (y_index1 Try.underlying22 sz5 rfl rfl (h_u.c _) (by omega) (by omega)) ?_
      refine wr_y rfl (y_ldI Try.underlying5 rfl rfl (h_u.c _) (by omega) (by omega)) ?_
      refine wr_y rfl (y_indexL Try.underlying31 sz3 rfl rfl (rdr 0 rfl) (by omega) (by omega) (by omega)) ?_
      refine wr_y rfl (y_ldL Try.underlying3 rfl rfl (rdr 0 rfl) (by omega) (by omega)) ?_
      refine wr_y rfl (y_addI rfl rfl (by omega)) ?_
      refine wr_y rfl (y_indexL Try.underlying31 sz3 rfl rfl (rdr 0 rfl) (by omega) (by omega) (by omega)) ?_
      refine wr_n (a_storeL 0 rfl sz3 rfl rfl (by omega) (by omega)) ?_
      rintro _ _ rfl
      refine wr_rows (R1 := [⟨31, 256, (some ⟨g_4, 0, none⟩), 1, 1, ints .i64 (upd V (rd u i) ((rd V (rd u i)) + 1)), false⟩, ⟨5, 1, A_1, (ofL u a1).length, c_2, ints .u8 (ofL u a1), false⟩]) rfl ?_
      refine wr_nil ?_
      refine w_reg ?_
      refine wr_y rfl (y_move rfl) ?_
      refine wr_y rfl (y_move rfl) ?_
      refine wr_y rfl (y_index1 Try.underlying22 sz5 rfl rfl (rdr 1 rfl) (by omega) (by omega)) ?_
      refine wr_y rfl (y_ldI Try.underlying5 rfl rfl (rdr 1 rfl) (by omega) (by omega)) ?_
      refine wr_y rfl (y_indexL Try.underlying31 sz3 rfl rfl (rdr 0 rfl) (by omega) (by omega) (by omega)) ?_
      refine wr_y rfl (y_ldL Try.underlying3 rfl rfl (rdr 0 rfl) (by omega) (by omega)) ?_
      refine wr_y rfl (y_subI rfl rfl (by omega)) ?_
      refine wr_y rfl (y_indexL Try.underlying31 sz3 rfl rfl (rdr 0 rfl) (by omega) (by omega) (by omega)) ?_
      refine wr_n (a_storeL 0 rfl sz3 rfl rfl (by omega) (by omega)) ?_
      rintro _ _ rfl
      refine wr_rows (R1 := [⟨31, 256, (some ⟨g_4, 0, none⟩), 1, 1, ints .i64 (upd (upd V (rd u i) ((rd V (rd u i)) + 1)) (rd (ofL u a1) i) ((rd (upd V (rd u i) ((rd V (rd u i)) + 1)) (rd (ofL u a1) i)) - 1)), false⟩, ⟨5, 1, A_1, (ofL u a1).length, c_2, ints .u8 (ofL u a1), false⟩]) rfl ?_
      refine wr_nil ?_
      refine w_reg ?_
      refine wr_y rfl (y_move rfl) ?_
      refine wr_y rfl (y_addI rfl rfl (by omega)) ?_
      refine wr_y rfl (y_assign rfl) ?_
      refine wr_nil ?_
      exact ⟨i + 1, upd (upd V (rd u i) ((rd V (rd u i)) + 1)) (rd (ofL u a1) i) ((rd (upd V (rd u i) ((rd V (rd u i)) + 1)) (rd (ofL u a1) i)) - 1), ⟨(by omega), (by omega), (by rw [upd_length, upd_length]; exact hVl), (cntI_step hi0 (by omega) (by omega) hVl hb1 hb2 hV)⟩, (by omega), (Sub.cons rfl (Sub.cons rfl (Sub.cons rfl (Sub.cons rfl (Sub.cons rfl Sub.nil))))), fun _ h => h⟩
    ·
      refine w_exit ?_
      refine w_seq ?_
      refine w_seq ?_
      refine w_reg ?_
      refine wr_y rfl (y_assign rfl) ?_
      refine wr_nil ?_
      refine w_block ?_
      refine w_loop1 (fun (j : Int) => [(0, .slice A_u u.length c_u), (3, .slice A_1 ((ofL u a1).length) c_2), (4, .int .i64 (zat a1)), (6, .pointer (some ⟨g_4, 0, none⟩)), (8, .int .i64 j)]) (fun (j : Int) => [⟨31, 256, (some ⟨g_4, 0, none⟩), 1, 1, ints .i64 V, false⟩, ⟨5, 1, A_1, (ofL u a1).length, c_2, ints .u8 (ofL u a1), false⟩]) (fun (j : Int) => (0 ≤ j) ∧ (j ≤ 256)) (fun (j : Int) => (256 - j).toNat) ?_ ?_
      ·
        exact ⟨0, ⟨(by omega), (by omega)⟩, (Sub.cons rfl (Sub.cons rfl (Sub.cons rfl (Sub.cons rfl (Sub.cons rfl Sub.nil))))), fun _ h => h⟩
      intro j ⟨hj0, hj1⟩
      refine w_seq ?_
      refine w_seq ?_
      refine w_reg ?_
      refine wr_y rfl (y_move rfl) ?_
      refine wr_y rfl (y_lt rfl rfl) ?_
      refine wr_nil ?_
      refine w_if rfl (fun hc3 => ?_) (fun hc3 => ?_)
      ·
        refine w_skip ?_
        refine w_seq ?_
        refine w_block ?_
        refine w_seq ?_
        refine w_reg ?_
        refine wr_y rfl (y_move rfl) ?_
        refine wr_y rfl (y_indexL Try.underlying31 sz3 rfl rfl (rdr 0 rfl) (by omega) (by omega) (by omega)) ?_
        refine wr_y rfl (y_ldL Try.underlying3 rfl rfl (rdr 0 rfl) (by omega) (by omega)) ?_
        refine wr_y rfl (Yl.f (y_ne rfl rfl) (by have := cntI_done hlm (by omega) hV (j := j) (by omega) (by omega); omega)) ?_
        refine wr_nil ?_
        refine w_false rfl ?_
        refine w_skip ?_
        refine w_reg ?_
        refine wr_y rfl (y_move rfl) ?_
        refine wr_y rfl (y_addI rfl rfl (by omega)) ?_
        refine wr_y rfl (y_assign rfl) ?_
        refine wr_nil ?_
        exact ⟨j + 1, ⟨(by omega), (by omega)⟩, (by omega), (Sub.cons rfl (Sub.cons rfl (Sub.cons rfl (Sub.cons rfl (Sub.cons rfl Sub.nil))))), fun _ h => h⟩
      ·
        refine w_exit ?_
        refine w_join0 [(2, .bool true)] [⟨31, 256, (some ⟨g_4, 0, none⟩), 1, 1, ints .i64 V, false⟩, ⟨5, 1, A_1, (ofL u a1).length, c_2, ints .u8 (ofL u a1), false⟩] ?_ ?_
        ·
          refine w_regd mixed ?_
          refine wd_y 0 rfl (by kernel_rfl) rfl (y_move rfl) ?_
          refine wd_y 1 rfl (by kernel_rfl) rfl (y_len Try.underlying22 rfl) ?_
          refine wd_y 2 rfl (by kernel_rfl) rfl (y_eq rfl rfl) ?_
          refine wd_y 3 rfl (by kernel_rfl) rfl (y_move rfl) ?_
          refine wd_case 70 rfl (fun hc4 => ?_) (fun hc4 => ?_)
          ·
            refine wd_no 4 rfl (by kernel_rfl) rfl rfl rfl rfl ?_
            refine wd_no 5 rfl (by kernel_rfl) rfl rfl rfl rfl ?_
            refine wd_no 6 rfl (by kernel_rfl) rfl rfl rfl rfl ?_
            refine wd_no 7 rfl (by kernel_rfl) rfl rfl rfl rfl ?_
            refine wd_no 8 rfl (by kernel_rfl) rfl rfl rfl rfl ?_
            refine wd_no 9 rfl (by kernel_rfl) rfl rfl rfl rfl ?_
            refine wd_no 10 rfl (by kernel_rfl) rfl rfl rfl rfl ?_
            refine wd_no 11 rfl (by kernel_rfl) rfl rfl rfl rfl ?_
            refine wd_no 12 rfl (by kernel_rfl) rfl rfl rfl rfl ?_
            refine wd_no 13 rfl (by kernel_rfl) rfl rfl rfl rfl ?_
            refine wd_no 14 rfl (by kernel_rfl) rfl rfl rfl rfl ?_
            refine wd_nou 15 rfl (by kernel_rfl) rfl rfl rfl ?_
            refine wd_nou 16 rfl (by kernel_rfl) rfl rfl rfl ?_
            refine wd_no 17 rfl (by kernel_rfl) rfl rfl rfl rfl ?_
            refine wd_y 18 rfl (by kernel_rfl) rfl (y_pickT rfl rfl) ?_
            refine wd_y 19 rfl (by kernel_rfl) rfl (y_move rfl) ?_
            refine wd_ag 20 rfl (by kernel_rfl) rfl rfl rfl (a_callF en13 rfl (Ct.quiet (fun w hw => known21_ct))) ?_
            rintro _ _ ⟨rfl, rfl⟩
            refine ⟨.inr fun _ h => h, ?_⟩
            refine wd_y 21 rfl (by kernel_rfl) rfl (y_pickT rfl rfl) ?_
            refine wd_y 22 rfl (by kernel_rfl) rfl (y_assign rfl) ?_
            refine wd_nil (by kernel_rfl) ?_
            exact ⟨(Sub.cons rfl Sub.nil), fun _ h => h⟩
          ·
            refine wd_yg 4 rfl (by kernel_rfl) rfl rfl rfl (y_move rfl) ?_
            refine wd_yg 5 rfl (by kernel_rfl) rfl rfl rfl (y_index1 Try.underlying22 sz5 rfl rfl (rdr 1 rfl) (by omega) (by omega)) ?_
            refine wd_yg 6 rfl (by kernel_rfl) rfl rfl rfl (y_ldI Try.underlying5 rfl rfl (rdr 1 rfl) (by omega) (by omega)) ?_
            refine wd_yg 7 rfl (by kernel_rfl) rfl rfl rfl (y_move rfl) ?_
            refine wd_yg 8 rfl (by kernel_rfl) rfl rfl rfl (y_move rfl) ?_
            refine wd_yg 9 rfl (by kernel_rfl) rfl rfl rfl (y_len Try.underlying22 rfl) ?_
            refine wd_yg 10 rfl (by kernel_rfl) rfl rfl rfl (y_subI rfl rfl (by omega)) ?_
            refine wd_yg 11 rfl (by kernel_rfl) rfl rfl rfl (y_index1 Try.underlying22 sz5 rfl rfl (h_u.c _) (by omega) (by omega)) ?_
            refine wd_yg 12 rfl (by kernel_rfl) rfl rfl rfl (y_ldI Try.underlying5 rfl rfl (h_u.c _) (by omega) (by omega)) ?_
            refine wd_yg 13 rfl (by kernel_rfl) rfl rfl rfl (Yl.t (y_eq rfl rfl) (by
                  have h := hof.2.2.2 0 (Int.le_refl 0) (by omega)
                  rw [if_pos rfl] at h
                  exact h)) ?_
            refine wd_yg 14 rfl (by kernel_rfl) rfl rfl rfl (y_move rfl) ?_
            refine wd_yg 15 rfl (by kernel_rfl) rfl rfl rfl (y_move rfl) ?_
            refine wd_yg 16 rfl (by kernel_rfl) rfl rfl rfl (Yl.t (y_gt rfl rfl) (by have h1 := hof.2.1; omega)) ?_
            refine wd_yg 17 rfl (by kernel_rfl) rfl rfl rfl (y_pickT rfl rfl) ?_
            refine wd_y 18 rfl (by kernel_rfl) rfl (y_pickF rfl rfl) ?_
            refine wd_y 19 rfl (by kernel_rfl) rfl (y_move rfl) ?_
            refine wd_ag 20 rfl (by kernel_rfl) rfl rfl rfl (a_callF en13 rfl (Ct.quiet (fun w hw => known21_ct))) ?_
            rintro _ _ ⟨rfl, rfl⟩
            refine ⟨.inr fun _ h => h, ?_⟩
            refine wd_y 21 rfl (by kernel_rfl) rfl (y_pickT rfl rfl) ?_
            refine wd_y 22 rfl (by kernel_rfl) rfl (y_assign rfl) ?_
            refine wd_nil (by kernel_rfl) ?_
            exact ⟨(Sub.cons rfl Sub.nil), fun _ h => h⟩
        refine w_retR (R1 := []) (fun _ h => h.sel [] (by decide) rfl) ?_
        refine ⟨_, rfl, ?_⟩
        rfl

end Go.Proofs.Ytjgjjojecjeijaa
