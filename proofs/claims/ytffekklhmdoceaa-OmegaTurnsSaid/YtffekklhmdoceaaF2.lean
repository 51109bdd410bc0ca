/- Walks of Go functions, printed by a program of our own. -/
import Derived.Test.YtffekklhmdoceaaF1
import Derived.Test.YtffekklhmdoceaaQ3
namespace Go.Proofs.Ytffekklhmdoceaa
open Go Go.Eng Go.Pure
set_option linter.unusedVariables false
/-! whorl/whorllaw8.times -/
set_option maxRecDepth 100000 in
theorem times_ct {w : World} {A_u : Option Addr} {n_u c_u : Nat} {u : List Int} {n : Int} (h_u : Rd w A_u n_u c_u 1 (ints .u8 u)) (hl : u.length ≤ 1000000) (hn : 0 ≤ n ∧ n ≤ 1000000) :
    Ct Try.prog 17 #[.slice A_u n_u c_u, .int .i64 n] w.heap.size w [] (fun v R' => ∃ A c, v = .slice A (rep u n).length c ∧ R' = [⟨5, 1, A, (rep u n).length, c, ints .u8 (rep u n), false⟩]) := by
  obtain rfl := h_u.lenI
  refine fn1 Try.func17 rfl rfl rfl ?_
  have m_u := h_u.max
  refine w_seq ?_
  refine w_reg ?_
  refine wr_y rfl (y_assign rfl) ?_
  refine wr_nil ?_
  refine w_seq ?_
  refine w_reg ?_
  refine wr_sub (R1 := [⟨5, 1, none, 0, 0, ints .u8 ([]), false⟩]) (Sub.refl _) (fun _ h => h.nil 5 1) ?_
  refine wr_y rfl (y_assign rfl) ?_
  refine wr_nil ?_
  refine w_seq ?_
  refine w_seq ?_
  refine w_reg ?_
  refine wr_y rfl (y_assign rfl) ?_
  refine wr_nil ?_
  refine w_block ?_
  refine w_loop5 (fun (A1 : Option Addr) (n1 : Nat) (c1 : Nat) (acc : List Int) (k : Int) => [(0, .slice A_u u.length c_u), (1, .int .i64 n), (5, .slice A1 n1 c1), (6, .int .i64 k)]) (fun (A1 : Option Addr) (n1 : Nat) (c1 : Nat) (acc : List Int) (k : Int) => [⟨5, 1, A1, n1, c1, ints .u8 acc, false⟩]) (fun (A1 : Option Addr) (n1 : Nat) (c1 : Nat) (acc : List Int) (k : Int) => (n1 = acc.length) ∧ (0 ≤ k) ∧ (k ≤ n) ∧ (acc = rep u k) ∧ ((acc.length : Int) ≤ 1000000 * k)) (fun (A1 : Option Addr) (n1 : Nat) (c1 : Nat) (acc : List Int) (k : Int) => (n - k).toNat) ?_ ?_
  ·
    exact ⟨none, 0, 0, [], 0, ⟨(rfl), (by omega), (by omega), (rfl), (by simp)⟩, (Sub.cons rfl (Sub.cons rfl (Sub.cons rfl (Sub.cons rfl Sub.nil)))), fun _ h => h⟩
  intro A1 n1 c1 acc k ⟨hn1, hk0, hk1, ha, hs⟩
  refine w_seq ?_
  refine w_seq ?_
  refine w_reg ?_
  refine wr_y rfl (y_move rfl) ?_
  refine wr_y rfl (y_move rfl) ?_
  refine wr_y rfl (y_lt rfl rfl) ?_
  refine wr_nil ?_
  refine w_if rfl (fun hc1 => ?_) (fun hc1 => ?_)
  ·
    refine w_skip ?_
    refine w_seq ?_
    refine w_block ?_
    refine w_reg ?_
    refine wr_y rfl (y_move rfl) ?_
    refine wr_y rfl (y_move rfl) ?_
    refine wr_a rfl (a_appendI 0 rfl Try.underlying22 zb5 rfl rfl rfl (h_u.c _) (by omega)) ?_
    rintro _ _ ⟨A_1, c_2, rfl, rfl⟩
    refine wr_rows (R1 := [⟨5, 1, A_1, (n1 + u.length), c_2, ints .u8 (acc ++ u), false⟩]) rfl ?_
    refine wr_as (v := .slice A_1 (n1 + u.length) c_2) rfl ?_
    refine wr_y rfl (y_assign rfl) ?_
    refine wr_nil ?_
    refine w_reg ?_
    refine wr_y rfl (y_move rfl) ?_
    refine wr_y rfl (y_addI rfl rfl (by omega)) ?_
    refine wr_y rfl (y_assign rfl) ?_
    refine wr_nil ?_
    exact ⟨A_1, n1 + u.length, c_2, acc ++ u, k + 1, ⟨(by rw [List.length_append, hn1]; try rfl), (by omega), (by omega), (by rw [ha, rep_succ hk0]), (by rw [List.length_append]; omega)⟩, (by omega), (Sub.cons rfl (Sub.cons rfl (Sub.cons rfl (Sub.cons rfl Sub.nil)))), fun _ h => h⟩
  ·
    refine w_exit ?_
    refine w_seq ?_
    refine w_reg ?_
    refine wr_y rfl (y_move rfl) ?_
    refine wr_y rfl (y_assign rfl) ?_
    refine wr_nil ?_
    refine w_retR (R1 := [⟨5, 1, A1, n1, c1, ints .u8 acc, false⟩]) (fun _ h => h.sel [0] (by decide) rfl) ?_
    refine ⟨_, rfl, ?_⟩
    obtain rfl : k = n := by omega
    subst hn1; subst ha
    exact ⟨_, _, rfl, rfl⟩

/-! whorl/whorllaw8.OmegaOrder -/
set_option maxRecDepth 100000 in
theorem omegaOrder_ct {w : World} {A_u : Option Addr} {n_u c_u : Nat} {u : List Int} {A_t : Option Addr} {n_t c_t : Nat} {t : List Int} {A_x : Option Addr} {n_x c_x : Nat} {x : List Int} (h_u : Rd w A_u n_u c_u 1 (ints .u8 u)) (h_t : Rd w A_t n_t c_t 1 (ints .u8 t)) (h_x : Rd w A_x n_x c_x 1 (ints .u8 x)) :
    Ct Try.prog 6 #[.slice A_u n_u c_u, .slice A_t n_t c_t, .slice A_x n_x c_x] w.heap.size w [] (fun v R' => v = .bool true) := by
  obtain rfl := h_u.lenI
  obtain rfl := h_t.lenI
  obtain rfl := h_x.lenI
  refine fn1 Try.func6 rfl rfl rfl ?_
  have m_u := h_u.max
  have m_t := h_t.max
  have m_x := h_x.max
  refine w_seq ?_
  refine w_reg ?_
  refine wr_y rfl (y_assign rfl) ?_
  refine wr_nil ?_
  refine w_seq ?_
  refine w_seq ?_
  refine w_reg ?_
  refine wr_y rfl (y_move rfl) ?_
  refine wr_y rfl (y_len Try.underlying22 rfl) ?_
  refine wr_y rfl (y_gt rfl rfl) ?_
  refine wr_y rfl (y_move rfl) ?_
  refine wr_mid 4 [(0, .slice A_u u.length c_u), (1, .slice A_t t.length c_t), (2, .slice A_x x.length c_x), (17, .bool (decide ((40 < ((u.length : Nat) : Int)) ∨ (40 < ((t.length : Nat) : Int)))))] [] ?_ ?_
  ·
    refine wr_case 13 rfl (fun hc1 => ?_) (fun hc1 => ?_)
    ·
      refine wr_no rfl rfl rfl rfl ?_
      refine wr_no rfl rfl rfl rfl ?_
      refine wr_no rfl rfl rfl rfl ?_
      refine wr_y rfl (y_pickT rfl rfl) ?_
      refine wr_nil ?_
      exact ⟨(Sub.cons rfl (Sub.cons rfl (Sub.cons rfl (Sub.to rfl (mb_t (by first | omega | simp [*])) Sub.nil)))), fun _ h => h⟩
    ·
      refine wr_yes rfl rfl ?_
      refine wr_y rfl (y_move rfl) ?_
      refine wr_yes rfl rfl ?_
      refine wr_y rfl (y_len Try.underlying22 rfl) ?_
      refine wr_yes rfl rfl ?_
      refine wr_y rfl (y_gt rfl rfl) ?_
      refine wr_y rfl (y_pickF rfl rfl) ?_
      refine wr_nil ?_
      exact ⟨(Sub.cons rfl (Sub.cons rfl (Sub.cons rfl (Sub.to rfl (mb (by first | omega | simp [*])) Sub.nil)))), fun _ h => h⟩
  refine wr_y rfl (y_move rfl) ?_
  refine wr_mid 4 [(0, .slice A_u u.length c_u), (1, .slice A_t t.length c_t), (2, .slice A_x x.length c_x), (22, .bool (decide (((40 < ((u.length : Nat) : Int)) ∨ (40 < ((t.length : Nat) : Int))) ∨ (40 < ((x.length : Nat) : Int)))))] [] ?_ ?_
  ·
    refine wr_case 18 rfl (fun hc2 => ?_) (fun hc2 => ?_)
    ·
      refine wr_no rfl rfl rfl rfl ?_
      refine wr_no rfl rfl rfl rfl ?_
      refine wr_no rfl rfl rfl rfl ?_
      refine wr_y rfl (y_pickT rfl rfl) ?_
      refine wr_nil ?_
      exact ⟨(Sub.cons rfl (Sub.cons rfl (Sub.cons rfl (Sub.to rfl (mb_t (by first | omega | simp [*])) Sub.nil)))), fun _ h => h⟩
    ·
      refine wr_yes rfl rfl ?_
      refine wr_y rfl (y_move rfl) ?_
      refine wr_yes rfl rfl ?_
      refine wr_y rfl (y_len Try.underlying22 rfl) ?_
      refine wr_yes rfl rfl ?_
      refine wr_y rfl (y_gt rfl rfl) ?_
      refine wr_y rfl (y_pickF rfl rfl) ?_
      refine wr_nil ?_
      exact ⟨(Sub.cons rfl (Sub.cons rfl (Sub.cons rfl (Sub.to rfl (mb (by first | omega | simp [*])) Sub.nil)))), fun _ h => h⟩
  refine wr_nil ?_
  refine w_if rfl (fun hc3 => ?_) (fun hc3 => ?_)
  ·
    refine w_seq ?_
    refine w_reg ?_
    refine wr_y rfl (y_assign rfl) ?_
    refine wr_nil ?_
    refine w_ret ?_
    refine ⟨_, rfl, ?_⟩
    rfl
  ·
    refine w_skip ?_
    refine w_seq ?_
    refine w_reg ?_
    refine wr_y rfl (y_move rfl) ?_
    refine wr_y rfl (y_move rfl) ?_
    refine wr_a rfl (a_callF en13 rfl (Ct.quiet (fun w hw => compareO_ct ((h_u.c _) w hw) ((h_t.c _) w hw) (by first | assumption | omega | decide) (by first | assumption | omega | decide)))) ?_
    rintro _ _ ⟨rfl, rfl⟩
    refine wr_y rfl (y_move rfl) ?_
    refine wr_y rfl (y_move rfl) ?_
    refine wr_a rfl (a_callF en13 rfl (Ct.quiet (fun w hw => compareO_ct ((h_t.c _) w hw) ((h_x.c _) w hw) (by first | assumption | omega | decide) (by first | assumption | omega | decide)))) ?_
    rintro _ _ ⟨rfl, rfl⟩
    refine wr_y rfl (y_move rfl) ?_
    refine wr_y rfl (y_move rfl) ?_
    refine wr_a rfl (a_callF en13 rfl (Ct.quiet (fun w hw => compareO_ct ((h_u.c _) w hw) ((h_x.c _) w hw) (by first | assumption | omega | decide) (by first | assumption | omega | decide)))) ?_
    rintro _ _ ⟨rfl, rfl⟩
    refine wr_y rfl (y_assign rfl) ?_
    refine wr_y rfl (y_assign rfl) ?_
    refine wr_y rfl (y_assign rfl) ?_
    refine wr_nil ?_
    refine w_seq ?_
    refine w_reg ?_
    refine wr_y rfl (y_move rfl) ?_
    refine wr_y rfl (y_gt rfl rfl) ?_
    refine wr_y rfl (y_move rfl) ?_
    refine wr_mid 3 [(7, .int .i64 (cmpO u t)), (8, .int .i64 (cmpO t x)), (9, .int .i64 (cmpO u x)), (37, .bool (decide ((0 < (cmpO u t)) ∨ (0 < (cmpO t x)))))] [] ?_ ?_
    ·
      refine wr_case 34 rfl (fun hc4 => ?_) (fun hc4 => ?_)
      ·
        refine wr_no rfl rfl rfl rfl ?_
        refine wr_no rfl rfl rfl rfl ?_
        refine wr_y rfl (y_pickT rfl rfl) ?_
        refine wr_nil ?_
        exact ⟨(Sub.cons rfl (Sub.cons rfl (Sub.cons rfl (Sub.to rfl (mb_t (by first | omega | simp [*])) Sub.nil)))), fun _ h => h⟩
      ·
        refine wr_yes rfl rfl ?_
        refine wr_y rfl (y_move rfl) ?_
        refine wr_yes rfl rfl ?_
        refine wr_y rfl (y_gt rfl rfl) ?_
        refine wr_y rfl (y_pickF rfl rfl) ?_
        refine wr_nil ?_
        exact ⟨(Sub.cons rfl (Sub.cons rfl (Sub.cons rfl (Sub.to rfl (mb (by first | omega | simp [*])) Sub.nil)))), fun _ h => h⟩
    refine wr_y rfl (y_move rfl) ?_
    refine wr_mid 3 [(7, .int .i64 (cmpO u t)), (8, .int .i64 (cmpO t x)), (9, .int .i64 (cmpO u x)), (41, .bool (decide (((0 < (cmpO u t)) ∨ (0 < (cmpO t x))) ∨ ((cmpO u x) ≤ 0))))] [] ?_ ?_
    ·
      refine wr_case 38 rfl (fun hc5 => ?_) (fun hc5 => ?_)
      ·
        refine wr_no rfl rfl rfl rfl ?_
        refine wr_no rfl rfl rfl rfl ?_
        refine wr_y rfl (y_pickT rfl rfl) ?_
        refine wr_nil ?_
        exact ⟨(Sub.cons rfl (Sub.cons rfl (Sub.cons rfl (Sub.to rfl (mb_t (by first | omega | simp [*])) Sub.nil)))), fun _ h => h⟩
      ·
        refine wr_yes rfl rfl ?_
        refine wr_y rfl (y_move rfl) ?_
        refine wr_yes rfl rfl ?_
        refine wr_y rfl (y_le rfl rfl) ?_
        refine wr_y rfl (y_pickF rfl rfl) ?_
        refine wr_nil ?_
        exact ⟨(Sub.cons rfl (Sub.cons rfl (Sub.cons rfl (Sub.to rfl (mb (by first | omega | simp [*])) Sub.nil)))), fun _ h => h⟩
    refine wr_setT 41 rfl (by have := cmpO_trans u t x; omega) ?_
    refine wr_y rfl (y_move rfl) ?_
    refine wr_yes rfl rfl ?_
    refine wr_y rfl (y_move rfl) ?_
    refine wr_yes rfl rfl ?_
    refine wr_y rfl (y_lt rfl rfl) ?_
    refine wr_yes rfl rfl ?_
    refine wr_y rfl (y_move rfl) ?_
    refine wr_mid 3 [(7, .int .i64 (cmpO u t)), (8, .int .i64 (cmpO t x)), (9, .int .i64 (cmpO u x)), (42, .bool true), (48, .bool (decide (((cmpO u t) < 0) ∨ ((cmpO t x) < 0))))] [] ?_ ?_
    ·
      refine wr_case 45 rfl (fun hc6 => ?_) (fun hc6 => ?_)
      ·
        refine wr_no rfl rfl rfl rfl ?_
        refine wr_no rfl rfl rfl rfl ?_
        refine wr_yes rfl rfl ?_
        refine wr_y rfl (y_pickT rfl rfl) ?_
        refine wr_nil ?_
        exact ⟨(Sub.cons rfl (Sub.cons rfl (Sub.cons rfl (Sub.cons rfl (Sub.to rfl (mb_t (by first | omega | simp [*])) Sub.nil))))), fun _ h => h⟩
      ·
        refine wr_yes rfl rfl ?_
        refine wr_y rfl (y_move rfl) ?_
        refine wr_yes rfl rfl ?_
        refine wr_y rfl (y_lt rfl rfl) ?_
        refine wr_yes rfl rfl ?_
        refine wr_y rfl (y_pickF rfl rfl) ?_
        refine wr_nil ?_
        exact ⟨(Sub.cons rfl (Sub.cons rfl (Sub.cons rfl (Sub.cons rfl (Sub.to rfl (mb (by first | omega | simp [*])) Sub.nil))))), fun _ h => h⟩
    refine wr_yes rfl rfl ?_
    refine wr_y rfl (y_move rfl) ?_
    refine wr_mid 3 [(7, .int .i64 (cmpO u t)), (8, .int .i64 (cmpO t x)), (9, .int .i64 (cmpO u x)), (42, .bool true), (52, .bool (decide ((((cmpO u t) < 0) ∨ ((cmpO t x) < 0)) ∨ (0 ≤ (cmpO u x)))))] [] ?_ ?_
    ·
      refine wr_case 49 rfl (fun hc7 => ?_) (fun hc7 => ?_)
      ·
        refine wr_no rfl rfl rfl rfl ?_
        refine wr_no rfl rfl rfl rfl ?_
        refine wr_yes rfl rfl ?_
        refine wr_y rfl (y_pickT rfl rfl) ?_
        refine wr_nil ?_
        exact ⟨(Sub.cons rfl (Sub.cons rfl (Sub.cons rfl (Sub.cons rfl (Sub.to rfl (mb_t (by first | omega | simp [*])) Sub.nil))))), fun _ h => h⟩
      ·
        refine wr_yes rfl rfl ?_
        refine wr_y rfl (y_move rfl) ?_
        refine wr_yes rfl rfl ?_
        refine wr_y rfl (y_ge rfl rfl) ?_
        refine wr_yes rfl rfl ?_
        refine wr_y rfl (y_pickF rfl rfl) ?_
        refine wr_nil ?_
        exact ⟨(Sub.cons rfl (Sub.cons rfl (Sub.cons rfl (Sub.cons rfl (Sub.to rfl (mb (by first | omega | simp [*])) Sub.nil))))), fun _ h => h⟩
    refine wr_setT 52 rfl (by have := cmpO_trans u t x; omega) ?_
    refine wr_y rfl (y_pickT rfl rfl) ?_
    refine wr_y rfl (y_move rfl) ?_
    refine wr_yes rfl rfl ?_
    refine wr_y rfl (y_move rfl) ?_
    refine wr_yes rfl rfl ?_
    refine wr_y rfl (y_ne rfl rfl) ?_
    refine wr_yes rfl rfl ?_
    refine wr_y rfl (y_move rfl) ?_
    refine wr_mid 4 [(54, .bool true), (61, .bool (decide (((cmpO u t) ≠ 0) ∨ ((cmpO t x) = (cmpO u x)))))] [] ?_ ?_
    ·
      refine wr_case 57 rfl (fun hc8 => ?_) (fun hc8 => ?_)
      ·
        refine wr_no rfl rfl rfl rfl ?_
        refine wr_no rfl rfl rfl rfl ?_
        refine wr_no rfl rfl rfl rfl ?_
        refine wr_yes rfl rfl ?_
        refine wr_y rfl (y_pickT rfl rfl) ?_
        refine wr_nil ?_
        exact ⟨(Sub.cons rfl (Sub.to rfl (mb_t (by first | omega | simp [*])) Sub.nil)), fun _ h => h⟩
      ·
        refine wr_yes rfl rfl ?_
        refine wr_y rfl (y_move rfl) ?_
        refine wr_yes rfl rfl ?_
        refine wr_y rfl (y_move rfl) ?_
        refine wr_yes rfl rfl ?_
        refine wr_y rfl (y_eq rfl rfl) ?_
        refine wr_yes rfl rfl ?_
        refine wr_y rfl (y_pickF rfl rfl) ?_
        refine wr_nil ?_
        exact ⟨(Sub.cons rfl (Sub.to rfl (mb (by first | omega | simp [*])) Sub.nil)), fun _ h => h⟩
    refine wr_setT 61 rfl (by have := cmpO_trans u t x; omega) ?_
    refine wr_y rfl (y_pickT rfl rfl) ?_
    refine wr_y rfl (y_move rfl) ?_
    refine wr_yes rfl rfl ?_
    refine wr_a rfl (a_callF en15 rfl (Ct.quiet (fun w hw => known8_ct))) ?_
    rintro _ _ ⟨rfl, rfl⟩
    refine wr_y rfl (y_pickT rfl rfl) ?_
    refine wr_y rfl (y_assign rfl) ?_
    refine wr_nil ?_
    refine w_ret ?_
    refine ⟨_, rfl, ?_⟩
    rfl

/-! whorl/whorllaw8.OmegaLong -/
set_option maxRecDepth 100000 in
theorem omegaLong_ct {w : World} {A_u : Option Addr} {n_u c_u : Nat} {u : List Int} {A_t : Option Addr} {n_t c_t : Nat} {t : List Int} (h_u : Rd w A_u n_u c_u 1 (ints .u8 u)) (h_t : Rd w A_t n_t c_t 1 (ints .u8 t)) :
    Ct Try.prog 5 #[.slice A_u n_u c_u, .slice A_t n_t c_t] w.heap.size w [] (fun v R' => v = .bool true) := by
  obtain rfl := h_u.lenI
  obtain rfl := h_t.lenI
  refine fn1 Try.func5 rfl rfl rfl ?_
  have m_u := h_u.max
  have m_t := h_t.max
  refine w_seq ?_
  refine w_reg ?_
  refine wr_y rfl (y_assign rfl) ?_
  refine wr_nil ?_
  refine w_seq ?_
  refine w_seq ?_
  refine w_reg ?_
  refine wr_y rfl (y_move rfl) ?_
  refine wr_y rfl (y_len Try.underlying22 rfl) ?_
  refine wr_y rfl (y_lt rfl rfl) ?_
  refine wr_y rfl (y_move rfl) ?_
  refine wr_mid 4 [(0, .slice A_u u.length c_u), (1, .slice A_t t.length c_t), (12, .bool (decide ((((u.length : Nat) : Int) < 1) ∨ (((t.length : Nat) : Int) < 1))))] [] ?_ ?_
  ·
    refine wr_case 8 rfl (fun hc1 => ?_) (fun hc1 => ?_)
    ·
      refine wr_no rfl rfl rfl rfl ?_
      refine wr_no rfl rfl rfl rfl ?_
      refine wr_no rfl rfl rfl rfl ?_
      refine wr_y rfl (y_pickT rfl rfl) ?_
      refine wr_nil ?_
      exact ⟨(Sub.cons rfl (Sub.cons rfl (Sub.to rfl (mb_t (by first | omega | simp [*])) Sub.nil))), fun _ h => h⟩
    ·
      refine wr_yes rfl rfl ?_
      refine wr_y rfl (y_move rfl) ?_
      refine wr_yes rfl rfl ?_
      refine wr_y rfl (y_len Try.underlying22 rfl) ?_
      refine wr_yes rfl rfl ?_
      refine wr_y rfl (y_lt rfl rfl) ?_
      refine wr_y rfl (y_pickF rfl rfl) ?_
      refine wr_nil ?_
      exact ⟨(Sub.cons rfl (Sub.cons rfl (Sub.to rfl (mb (by first | omega | simp [*])) Sub.nil))), fun _ h => h⟩
  refine wr_y rfl (y_move rfl) ?_
  refine wr_mid 4 [(0, .slice A_u u.length c_u), (1, .slice A_t t.length c_t), (17, .bool (decide (((((u.length : Nat) : Int) < 1) ∨ (((t.length : Nat) : Int) < 1)) ∨ (20 < ((u.length : Nat) : Int)))))] [] ?_ ?_
  ·
    refine wr_case 13 rfl (fun hc2 => ?_) (fun hc2 => ?_)
    ·
      refine wr_no rfl rfl rfl rfl ?_
      refine wr_no rfl rfl rfl rfl ?_
      refine wr_no rfl rfl rfl rfl ?_
      refine wr_y rfl (y_pickT rfl rfl) ?_
      refine wr_nil ?_
      exact ⟨(Sub.cons rfl (Sub.cons rfl (Sub.to rfl (mb_t (by first | omega | simp [*])) Sub.nil))), fun _ h => h⟩
    ·
      refine wr_yes rfl rfl ?_
      refine wr_y rfl (y_move rfl) ?_
      refine wr_yes rfl rfl ?_
      refine wr_y rfl (y_len Try.underlying22 rfl) ?_
      refine wr_yes rfl rfl ?_
      refine wr_y rfl (y_gt rfl rfl) ?_
      refine wr_y rfl (y_pickF rfl rfl) ?_
      refine wr_nil ?_
      exact ⟨(Sub.cons rfl (Sub.cons rfl (Sub.to rfl (mb (by first | omega | simp [*])) Sub.nil))), fun _ h => h⟩
  refine wr_y rfl (y_move rfl) ?_
  refine wr_mid 4 [(0, .slice A_u u.length c_u), (1, .slice A_t t.length c_t), (22, .bool (decide ((((((u.length : Nat) : Int) < 1) ∨ (((t.length : Nat) : Int) < 1)) ∨ (20 < ((u.length : Nat) : Int))) ∨ (20 < ((t.length : Nat) : Int)))))] [] ?_ ?_
  ·
    refine wr_case 18 rfl (fun hc3 => ?_) (fun hc3 => ?_)
    ·
      refine wr_no rfl rfl rfl rfl ?_
      refine wr_no rfl rfl rfl rfl ?_
      refine wr_no rfl rfl rfl rfl ?_
      refine wr_y rfl (y_pickT rfl rfl) ?_
      refine wr_nil ?_
      exact ⟨(Sub.cons rfl (Sub.cons rfl (Sub.to rfl (mb_t (by first | omega | simp [*])) Sub.nil))), fun _ h => h⟩
    ·
      refine wr_yes rfl rfl ?_
      refine wr_y rfl (y_move rfl) ?_
      refine wr_yes rfl rfl ?_
      refine wr_y rfl (y_len Try.underlying22 rfl) ?_
      refine wr_yes rfl rfl ?_
      refine wr_y rfl (y_gt rfl rfl) ?_
      refine wr_y rfl (y_pickF rfl rfl) ?_
      refine wr_nil ?_
      exact ⟨(Sub.cons rfl (Sub.cons rfl (Sub.to rfl (mb (by first | omega | simp [*])) Sub.nil))), fun _ h => h⟩
  refine wr_nil ?_
  refine w_if rfl (fun hc4 => ?_) (fun hc4 => ?_)
  ·
    refine w_seq ?_
    refine w_reg ?_
    refine wr_y rfl (y_assign rfl) ?_
    refine wr_nil ?_
    refine w_ret ?_
    refine ⟨_, rfl, ?_⟩
    rfl
  ·
    refine w_skip ?_
    refine w_seq ?_
    refine w_reg ?_
    refine wr_y rfl (y_move rfl) ?_
    refine wr_y rfl (y_move rfl) ?_
    refine wr_a rfl (a_callF en13 rfl (Ct.quiet (fun w hw => compareO_ct ((h_u.c _) w hw) ((h_t.c _) w hw) (by first | assumption | omega | decide) (by first | assumption | omega | decide)))) ?_
    rintro _ _ ⟨rfl, rfl⟩
    refine wr_y rfl (y_move rfl) ?_
    refine wr_y rfl (y_move rfl) ?_
    refine wr_y rfl (y_len Try.underlying22 rfl) ?_
    refine wr_y rfl (y_mulI rfl rfl (by omega)) ?_
    refine wr_a rfl (a_callF en17 rfl (Ct.fresh (fun w hw => times_ct ((h_u.c _) w hw) (by first | assumption | omega | decide) (by omega)))) ?_
    rintro _ _ ⟨_, rfl, A_1, c_2, rfl, rfl⟩
    refine wr_y rfl (y_move rfl) ?_
    refine wr_y rfl (y_move rfl) ?_
    refine wr_y rfl (y_len Try.underlying22 rfl) ?_
    refine wr_y rfl (y_mulI rfl rfl (by omega)) ?_
    refine wr_a rfl (a_callF en17 rfl (Ct.fresh (fun w hw => times_ct ((h_t.c _) w hw) (by first | assumption | omega | decide) (by omega)))) ?_
    rintro _ _ ⟨_, rfl, A_4, c_5, rfl, rfl⟩
    refine wr_a rfl (a_callF en18 rfl (Ct.quiet (fun w hw => words4_ct ((rdr 1 rfl) w hw) ((rdr 0 rfl) w hw)))) ?_
    rintro _ _ ⟨rfl, rfl⟩
    refine wr_y rfl (Yl.t (y_eq rfl rfl) (cmpO_long (by omega) (by omega))) ?_
    refine wr_y rfl (y_move rfl) ?_
    refine wr_yes rfl rfl ?_
    refine wr_a rfl (a_callF en15 rfl (Ct.quiet (fun w hw => known8_ct))) ?_
    rintro _ _ ⟨rfl, rfl⟩
    refine wr_y rfl (y_pickT rfl rfl) ?_
    refine wr_y rfl (y_assign rfl) ?_
    refine wr_nil ?_
    refine w_retR (R1 := []) (fun _ h => h.sel [] (by decide) rfl) ?_
    refine ⟨_, rfl, ?_⟩
    rfl

/-! whorl/whorlref5.Least -/
set_option maxRecDepth 100000 in
theorem least5_ct {w : World} {A_u : Option Addr} {n_u c_u : Nat} {u : List Int} (h_u : Rd w A_u n_u c_u 1 (ints .u8 u)) (bh_u : ByteL u) (hne : 0 < u.length) (hlu : u.length ≤ 1000000) :
    Ct Try.prog 31 #[.slice A_u n_u c_u] w.heap.size w [] (fun v R' => v = .int .i64 (lp u)) := by
  obtain rfl := h_u.lenI
  refine fn1 Try.func31 rfl rfl rfl ?_
  have m_u := h_u.max
  refine w_seq ?_
  refine w_reg ?_
  refine wr_y rfl (y_assign rfl) ?_
  refine wr_nil ?_
  refine w_seq ?_
  refine w_seq ?_
  refine w_reg ?_
  refine wr_y rfl (y_assign rfl) ?_
  refine wr_nil ?_
  refine w_block ?_
  refine w_loop1 (fun (p : Int) => [(0, .slice A_u u.length c_u), (3, .int .i64 p)]) (fun (p : Int) => []) (fun (p : Int) => (1 ≤ p) ∧ (p ≤ u.length + 1) ∧ (lp u = lpF u ((u.length : Int) + 1 - p).toNat p)) (fun (p : Int) => ((u.length : Int) + 1 - p).toNat) ?_ ?_
  ·
    exact ⟨1, ⟨(by omega), (by omega), (by unfold lp; congr 1; omega)⟩, (Sub.cons rfl (Sub.cons rfl Sub.nil)), fun _ h => h⟩
  intro p ⟨hp1, hp2, hl⟩
  refine w_seq ?_
  refine w_seq ?_
  refine w_reg ?_
  refine wr_y rfl (y_move rfl) ?_
  refine wr_y rfl (y_move rfl) ?_
  refine wr_y rfl (y_len Try.underlying22 rfl) ?_
  refine wr_y rfl (y_le rfl rfl) ?_
  refine wr_nil ?_
  refine w_if rfl (fun hc1 => ?_) (fun hc1 => ?_)
  ·
    refine w_skip ?_
    refine w_seq ?_
    refine w_block ?_
    refine w_seq ?_
    refine w_regd mixed ?_
    refine wd_y 0 rfl (by kernel_rfl) rfl (y_move rfl) ?_
    refine wd_y 1 rfl (by kernel_rfl) rfl (y_move rfl) ?_
    refine wd_y 2 rfl (by kernel_rfl) rfl (y_sliceFrom Try.underlying22 sz5 rfl rfl (by omega) (by omega)) ?_
    refine wd_y 3 rfl (by kernel_rfl) rfl (y_toStr Try.underlying22 Try.underlying5 Try.underlying9 rfl (RdC.fromI (h_u.c _) (by omega))) ?_
    refine wd_y 4 rfl (by kernel_rfl) rfl (y_move rfl) ?_
    refine wd_y 5 rfl (by kernel_rfl) rfl (y_move rfl) ?_
    refine wd_y 6 rfl (by kernel_rfl) rfl (y_len Try.underlying22 rfl) ?_
    refine wd_y 7 rfl (by kernel_rfl) rfl (y_move rfl) ?_
    refine wd_y 8 rfl (by kernel_rfl) rfl (y_subI rfl rfl (by omega)) ?_
    refine wd_y 9 rfl (by kernel_rfl) rfl (y_sliceTo Try.underlying22 sz5 rfl rfl (h_u.c _) (by omega) (by omega)) ?_
    refine wd_y 10 rfl (by kernel_rfl) rfl (y_toStr Try.underlying22 Try.underlying5 Try.underlying9 rfl (RdC.toI (h_u.c _) (by omega))) ?_
    refine wd_y 11 rfl (by kernel_rfl) rfl (y_eqL rfl rfl (ByteL.drop bh_u _) (ByteL.take bh_u _)) ?_
    refine wd_nil (by kernel_rfl) ?_
    refine w_if rfl (fun hc2 => ?_) (fun hc2 => ?_)
    ·
      refine w_seq ?_
      refine w_reg ?_
      refine wr_y rfl (y_move rfl) ?_
      refine wr_y rfl (y_assign rfl) ?_
      refine wr_nil ?_
      refine w_ret ?_
      refine ⟨_, rfl, ?_⟩
      exact congrArg (Value.int .i64) (by rw [hl, lpF_hit (by omega) (by assumption)])
    ·
      refine w_skip ?_
      refine w_reg ?_
      refine wr_y rfl (y_move rfl) ?_
      refine wr_y rfl (y_addI rfl rfl (by omega)) ?_
      refine wr_y rfl (y_assign rfl) ?_
      refine wr_nil ?_
      exact ⟨p + 1, ⟨(by omega), (by omega), (by rw [hl, lpF_go (by omega) (by assumption)]; congr 1; omega)⟩, (by omega), (Sub.cons rfl (Sub.cons rfl Sub.nil)), fun _ h => h⟩
  ·
    refine w_exit ?_
    refine w_seq ?_
    refine w_reg ?_
    refine wr_y rfl (y_assign rfl) ?_
    refine wr_nil ?_
    refine w_ret ?_
    refine ⟨_, rfl, ?_⟩
    have := lp_range hne
    have e0 : ((u.length : Int) + 1 - p).toNat = 0 := by omega
    rw [e0] at hl
    unfold lpF at hl
    omega

/-! whorl/whorlref5.Root -/
set_option maxRecDepth 100000 in
theorem root5_ct {w : World} {A_u : Option Addr} {n_u c_u : Nat} {u : List Int} (h_u : Rd w A_u n_u c_u 1 (ints .u8 u)) (bh_u : ByteL u) (hne : 0 < u.length) (hlu : u.length ≤ 1000000) :
    Ct Try.prog 16 #[.slice A_u n_u c_u] w.heap.size w [] (fun v R' => v = .tuple #[.slice A_u (rl u).toNat c_u, .int .i64 ((u.length : Int) / rl u)]) := by
  obtain rfl := h_u.lenI
  refine fn2 Try.func16 rfl rfl rfl ?_
  have m_u := h_u.max
  have hlp := lp_range hne
  refine w_seq ?_
  refine w_reg ?_
  refine wr_y rfl (y_assign rfl) ?_
  refine wr_y rfl (y_assign rfl) ?_
  refine wr_nil ?_
  refine w_seq ?_
  refine w_reg ?_
  refine wr_y rfl (y_move rfl) ?_
  refine wr_a rfl (a_callF en31 rfl (Ct.quiet (fun w hw => least5_ct ((h_u.c _) w hw) (by first | assumption | omega | decide) (by first | assumption | omega | decide) (by first | assumption | omega | decide)))) ?_
  rintro _ _ ⟨rfl, rfl⟩
  refine wr_y rfl (y_assign rfl) ?_
  refine wr_nil ?_
  refine w_seq ?_
  refine w_seq ?_
  refine w_reg ?_
  refine wr_y rfl (y_move rfl) ?_
  refine wr_y rfl (y_eq rfl rfl) ?_
  refine wr_nil ?_
  refine w_if rfl (fun hc1 => ?_) (fun hc1 => ?_)
  ·
    refine w_seq ?_
    refine w_reg ?_
    refine wr_y rfl (y_assign rfl) ?_
    refine wr_y rfl (y_assign rfl) ?_
    refine wr_nil ?_
    refine w_ret ?_
    refine ⟨_, _, rfl, rfl, ?_⟩
    omega
  ·
    refine w_skip ?_
    refine w_seq ?_
    refine w_seq ?_
    refine w_reg ?_
    refine wr_y rfl (y_move rfl) ?_
    refine wr_y rfl (y_len Try.underlying22 rfl) ?_
    refine wr_y rfl (y_move rfl) ?_
    refine wr_y rfl (y_rem rfl rfl (by omega) (by omega)) ?_
    refine wr_y rfl (y_ne rfl rfl) ?_
    refine wr_nil ?_
    refine w_if rfl (fun hc2 => ?_) (fun hc2 => ?_)
    ·
      refine w_reg ?_
      refine wr_y rfl (y_move rfl) ?_
      refine wr_y rfl (y_len Try.underlying22 rfl) ?_
      refine wr_y rfl (y_assign rfl) ?_
      refine wr_nil ?_
      refine w_seq ?_
      refine w_regd mixed ?_
      refine wd_y 0 rfl (by kernel_rfl) rfl (y_move rfl) ?_
      refine wd_y 1 rfl (by kernel_rfl) rfl (y_move rfl) ?_
      refine wd_y 2 rfl (by kernel_rfl) rfl (y_sliceTo Try.underlying22 sz5 rfl rfl (h_u.c _) (by omega) (by omega)) ?_
      refine wd_y 3 rfl (by kernel_rfl) rfl (y_move rfl) ?_
      refine wd_y 4 rfl (by kernel_rfl) rfl (y_len Try.underlying22 rfl) ?_
      refine wd_y 5 rfl (by kernel_rfl) rfl (y_move rfl) ?_
      refine wd_y 6 rfl (by kernel_rfl) rfl (y_quoI rfl rfl (by omega) (by omega) (by omega)) ?_
      refine wd_y 7 rfl (by kernel_rfl) rfl (y_assign rfl) ?_
      refine wd_y 8 rfl (by kernel_rfl) rfl (y_assign rfl) ?_
      refine wd_nil (by kernel_rfl) ?_
      refine w_ret ?_
      refine ⟨_, _, rfl, rfl, ?_⟩
      have e : rl u = u.length := by unfold rl; rw [if_pos (by assumption)]
      rw [e]
    ·
      refine w_skip ?_
      refine w_seq ?_
      refine w_regd mixed ?_
      refine wd_y 0 rfl (by kernel_rfl) rfl (y_move rfl) ?_
      refine wd_y 1 rfl (by kernel_rfl) rfl (y_move rfl) ?_
      refine wd_y 2 rfl (by kernel_rfl) rfl (y_sliceTo Try.underlying22 sz5 rfl rfl (h_u.c _) (by omega) (by omega)) ?_
      refine wd_y 3 rfl (by kernel_rfl) rfl (y_move rfl) ?_
      refine wd_y 4 rfl (by kernel_rfl) rfl (y_len Try.underlying22 rfl) ?_
      refine wd_y 5 rfl (by kernel_rfl) rfl (y_move rfl) ?_
      refine wd_y 6 rfl (by kernel_rfl) rfl (y_quoI rfl rfl (by omega) (by omega) (by omega)) ?_
      refine wd_y 7 rfl (by kernel_rfl) rfl (y_assign rfl) ?_
      refine wd_y 8 rfl (by kernel_rfl) rfl (y_assign rfl) ?_
      refine wd_nil (by kernel_rfl) ?_
      refine w_ret ?_
      refine ⟨_, _, rfl, rfl, ?_⟩
      have e : rl u = lp u := by unfold rl; rw [if_neg (by assumption)]
      rw [e]

/-! whorl/whorllaw8.OmegaSame -/
set_option maxRecDepth 100000 in
theorem omegaSame_ct {w : World} {A_u : Option Addr} {n_u c_u : Nat} {u : List Int} {a : Int} {b : Int} {A_t : Option Addr} {n_t c_t : Nat} {t : List Int} (h_u : Rd w A_u n_u c_u 1 (ints .u8 u)) (h_t : Rd w A_t n_t c_t 1 (ints .u8 t)) (bh_u : ByteL u) (bh_t : ByteL t) :
    Ct Try.prog 4 #[.slice A_u n_u c_u, .int .i64 a, .int .i64 b, .slice A_t n_t c_t] w.heap.size w [] (fun v R' => v = .bool true) := by
  obtain rfl := h_u.lenI
  obtain rfl := h_t.lenI
  refine fn1 Try.func4 rfl rfl rfl ?_
  have m_u := h_u.max
  have m_t := h_t.max
  refine w_seq ?_
  refine w_reg ?_
  refine wr_y rfl (y_assign rfl) ?_
  refine wr_nil ?_
  refine w_seq ?_
  refine w_seq ?_
  refine w_reg ?_
  refine wr_y rfl (y_move rfl) ?_
  refine wr_y rfl (y_len Try.underlying22 rfl) ?_
  refine wr_y rfl (y_lt rfl rfl) ?_
  refine wr_y rfl (y_move rfl) ?_
  refine wr_mid 4 [(0, .slice A_u u.length c_u), (1, .int .i64 a), (2, .int .i64 b), (3, .slice A_t t.length c_t), (20, .bool (decide ((((u.length : Nat) : Int) < 1) ∨ (20 < ((u.length : Nat) : Int)))))] [] ?_ ?_
  ·
    refine wr_case 16 rfl (fun hc1 => ?_) (fun hc1 => ?_)
    ·
      refine wr_no rfl rfl rfl rfl ?_
      refine wr_no rfl rfl rfl rfl ?_
      refine wr_no rfl rfl rfl rfl ?_
      refine wr_y rfl (y_pickT rfl rfl) ?_
      refine wr_nil ?_
      exact ⟨(Sub.cons rfl (Sub.cons rfl (Sub.cons rfl (Sub.cons rfl (Sub.to rfl (mb_t (by first | omega | simp [*])) Sub.nil))))), fun _ h => h⟩
    ·
      refine wr_yes rfl rfl ?_
      refine wr_y rfl (y_move rfl) ?_
      refine wr_yes rfl rfl ?_
      refine wr_y rfl (y_len Try.underlying22 rfl) ?_
      refine wr_yes rfl rfl ?_
      refine wr_y rfl (y_gt rfl rfl) ?_
      refine wr_y rfl (y_pickF rfl rfl) ?_
      refine wr_nil ?_
      exact ⟨(Sub.cons rfl (Sub.cons rfl (Sub.cons rfl (Sub.cons rfl (Sub.to rfl (mb (by first | omega | simp [*])) Sub.nil))))), fun _ h => h⟩
  refine wr_y rfl (y_move rfl) ?_
  refine wr_mid 4 [(0, .slice A_u u.length c_u), (1, .int .i64 a), (2, .int .i64 b), (3, .slice A_t t.length c_t), (25, .bool (decide (((((u.length : Nat) : Int) < 1) ∨ (20 < ((u.length : Nat) : Int))) ∨ (((t.length : Nat) : Int) < 1))))] [] ?_ ?_
  ·
    refine wr_case 21 rfl (fun hc2 => ?_) (fun hc2 => ?_)
    ·
      refine wr_no rfl rfl rfl rfl ?_
      refine wr_no rfl rfl rfl rfl ?_
      refine wr_no rfl rfl rfl rfl ?_
      refine wr_y rfl (y_pickT rfl rfl) ?_
      refine wr_nil ?_
      exact ⟨(Sub.cons rfl (Sub.cons rfl (Sub.cons rfl (Sub.cons rfl (Sub.to rfl (mb_t (by first | omega | simp [*])) Sub.nil))))), fun _ h => h⟩
    ·
      refine wr_yes rfl rfl ?_
      refine wr_y rfl (y_move rfl) ?_
      refine wr_yes rfl rfl ?_
      refine wr_y rfl (y_len Try.underlying22 rfl) ?_
      refine wr_yes rfl rfl ?_
      refine wr_y rfl (y_lt rfl rfl) ?_
      refine wr_y rfl (y_pickF rfl rfl) ?_
      refine wr_nil ?_
      exact ⟨(Sub.cons rfl (Sub.cons rfl (Sub.cons rfl (Sub.cons rfl (Sub.to rfl (mb (by first | omega | simp [*])) Sub.nil))))), fun _ h => h⟩
  refine wr_y rfl (y_move rfl) ?_
  refine wr_mid 4 [(0, .slice A_u u.length c_u), (1, .int .i64 a), (2, .int .i64 b), (3, .slice A_t t.length c_t), (30, .bool (decide ((((((u.length : Nat) : Int) < 1) ∨ (20 < ((u.length : Nat) : Int))) ∨ (((t.length : Nat) : Int) < 1)) ∨ (60 < ((t.length : Nat) : Int)))))] [] ?_ ?_
  ·
    refine wr_case 26 rfl (fun hc3 => ?_) (fun hc3 => ?_)
    ·
      refine wr_no rfl rfl rfl rfl ?_
      refine wr_no rfl rfl rfl rfl ?_
      refine wr_no rfl rfl rfl rfl ?_
      refine wr_y rfl (y_pickT rfl rfl) ?_
      refine wr_nil ?_
      exact ⟨(Sub.cons rfl (Sub.cons rfl (Sub.cons rfl (Sub.cons rfl (Sub.to rfl (mb_t (by first | omega | simp [*])) Sub.nil))))), fun _ h => h⟩
    ·
      refine wr_yes rfl rfl ?_
      refine wr_y rfl (y_move rfl) ?_
      refine wr_yes rfl rfl ?_
      refine wr_y rfl (y_len Try.underlying22 rfl) ?_
      refine wr_yes rfl rfl ?_
      refine wr_y rfl (y_gt rfl rfl) ?_
      refine wr_y rfl (y_pickF rfl rfl) ?_
      refine wr_nil ?_
      exact ⟨(Sub.cons rfl (Sub.cons rfl (Sub.cons rfl (Sub.cons rfl (Sub.to rfl (mb (by first | omega | simp [*])) Sub.nil))))), fun _ h => h⟩
  refine wr_y rfl (y_move rfl) ?_
  refine wr_mid 3 [(0, .slice A_u u.length c_u), (1, .int .i64 a), (2, .int .i64 b), (3, .slice A_t t.length c_t), (34, .bool (decide (((((((u.length : Nat) : Int) < 1) ∨ (20 < ((u.length : Nat) : Int))) ∨ (((t.length : Nat) : Int) < 1)) ∨ (60 < ((t.length : Nat) : Int))) ∨ (a < 1))))] [] ?_ ?_
  ·
    refine wr_case 31 rfl (fun hc4 => ?_) (fun hc4 => ?_)
    ·
      refine wr_no rfl rfl rfl rfl ?_
      refine wr_no rfl rfl rfl rfl ?_
      refine wr_y rfl (y_pickT rfl rfl) ?_
      refine wr_nil ?_
      exact ⟨(Sub.cons rfl (Sub.cons rfl (Sub.cons rfl (Sub.cons rfl (Sub.to rfl (mb_t (by first | omega | simp [*])) Sub.nil))))), fun _ h => h⟩
    ·
      refine wr_yes rfl rfl ?_
      refine wr_y rfl (y_move rfl) ?_
      refine wr_yes rfl rfl ?_
      refine wr_y rfl (y_lt rfl rfl) ?_
      refine wr_y rfl (y_pickF rfl rfl) ?_
      refine wr_nil ?_
      exact ⟨(Sub.cons rfl (Sub.cons rfl (Sub.cons rfl (Sub.cons rfl (Sub.to rfl (mb (by first | omega | simp [*])) Sub.nil))))), fun _ h => h⟩
  refine wr_y rfl (y_move rfl) ?_
  refine wr_mid 3 [(0, .slice A_u u.length c_u), (1, .int .i64 a), (2, .int .i64 b), (3, .slice A_t t.length c_t), (38, .bool (decide ((((((((u.length : Nat) : Int) < 1) ∨ (20 < ((u.length : Nat) : Int))) ∨ (((t.length : Nat) : Int) < 1)) ∨ (60 < ((t.length : Nat) : Int))) ∨ (a < 1)) ∨ (5 < a))))] [] ?_ ?_
  ·
    refine wr_case 35 rfl (fun hc5 => ?_) (fun hc5 => ?_)
    ·
      refine wr_no rfl rfl rfl rfl ?_
      refine wr_no rfl rfl rfl rfl ?_
      refine wr_y rfl (y_pickT rfl rfl) ?_
      refine wr_nil ?_
      exact ⟨(Sub.cons rfl (Sub.cons rfl (Sub.cons rfl (Sub.cons rfl (Sub.to rfl (mb_t (by first | omega | simp [*])) Sub.nil))))), fun _ h => h⟩
    ·
      refine wr_yes rfl rfl ?_
      refine wr_y rfl (y_move rfl) ?_
      refine wr_yes rfl rfl ?_
      refine wr_y rfl (y_gt rfl rfl) ?_
      refine wr_y rfl (y_pickF rfl rfl) ?_
      refine wr_nil ?_
      exact ⟨(Sub.cons rfl (Sub.cons rfl (Sub.cons rfl (Sub.cons rfl (Sub.to rfl (mb (by first | omega | simp [*])) Sub.nil))))), fun _ h => h⟩
  refine wr_y rfl (y_move rfl) ?_
  refine wr_mid 3 [(0, .slice A_u u.length c_u), (1, .int .i64 a), (2, .int .i64 b), (3, .slice A_t t.length c_t), (42, .bool (decide (((((((((u.length : Nat) : Int) < 1) ∨ (20 < ((u.length : Nat) : Int))) ∨ (((t.length : Nat) : Int) < 1)) ∨ (60 < ((t.length : Nat) : Int))) ∨ (a < 1)) ∨ (5 < a)) ∨ (b < 1))))] [] ?_ ?_
  ·
    refine wr_case 39 rfl (fun hc6 => ?_) (fun hc6 => ?_)
    ·
      refine wr_no rfl rfl rfl rfl ?_
      refine wr_no rfl rfl rfl rfl ?_
      refine wr_y rfl (y_pickT rfl rfl) ?_
      refine wr_nil ?_
      exact ⟨(Sub.cons rfl (Sub.cons rfl (Sub.cons rfl (Sub.cons rfl (Sub.to rfl (mb_t (by first | omega | simp [*])) Sub.nil))))), fun _ h => h⟩
    ·
      refine wr_yes rfl rfl ?_
      refine wr_y rfl (y_move rfl) ?_
      refine wr_yes rfl rfl ?_
      refine wr_y rfl (y_lt rfl rfl) ?_
      refine wr_y rfl (y_pickF rfl rfl) ?_
      refine wr_nil ?_
      exact ⟨(Sub.cons rfl (Sub.cons rfl (Sub.cons rfl (Sub.cons rfl (Sub.to rfl (mb (by first | omega | simp [*])) Sub.nil))))), fun _ h => h⟩
  refine wr_y rfl (y_move rfl) ?_
  refine wr_mid 3 [(0, .slice A_u u.length c_u), (1, .int .i64 a), (2, .int .i64 b), (3, .slice A_t t.length c_t), (46, .bool (decide ((((((((((u.length : Nat) : Int) < 1) ∨ (20 < ((u.length : Nat) : Int))) ∨ (((t.length : Nat) : Int) < 1)) ∨ (60 < ((t.length : Nat) : Int))) ∨ (a < 1)) ∨ (5 < a)) ∨ (b < 1)) ∨ (5 < b))))] [] ?_ ?_
  ·
    refine wr_case 43 rfl (fun hc7 => ?_) (fun hc7 => ?_)
    ·
      refine wr_no rfl rfl rfl rfl ?_
      refine wr_no rfl rfl rfl rfl ?_
      refine wr_y rfl (y_pickT rfl rfl) ?_
      refine wr_nil ?_
      exact ⟨(Sub.cons rfl (Sub.cons rfl (Sub.cons rfl (Sub.cons rfl (Sub.to rfl (mb_t (by first | omega | simp [*])) Sub.nil))))), fun _ h => h⟩
    ·
      refine wr_yes rfl rfl ?_
      refine wr_y rfl (y_move rfl) ?_
      refine wr_yes rfl rfl ?_
      refine wr_y rfl (y_gt rfl rfl) ?_
      refine wr_y rfl (y_pickF rfl rfl) ?_
      refine wr_nil ?_
      exact ⟨(Sub.cons rfl (Sub.cons rfl (Sub.cons rfl (Sub.cons rfl (Sub.to rfl (mb (by first | omega | simp [*])) Sub.nil))))), fun _ h => h⟩
  refine wr_nil ?_
  refine w_if rfl (fun hc8 => ?_) (fun hc8 => ?_)
  ·
    refine w_seq ?_
    refine w_reg ?_
    refine wr_y rfl (y_assign rfl) ?_
    refine wr_nil ?_
    refine w_ret ?_
    refine ⟨_, rfl, ?_⟩
    rfl
  ·
    refine w_skip ?_
    refine w_seq ?_
    refine w_reg ?_
    refine wr_y rfl (y_move rfl) ?_
    refine wr_a rfl (a_callF en16 rfl (Ct.quiet (fun w hw => root5_ct ((h_u.c _) w hw) (by first | assumption | omega | decide) (by first | assumption | omega | decide) (by first | assumption | omega | decide)))) ?_
    rintro _ _ ⟨rfl, rfl⟩
    have hr0 := rl_range (u := u) (by omega)
    refine wr_y rfl (y_move rfl) ?_
    refine wr_y rfl (y_extract rfl rfl) ?_
    refine wr_y rfl (y_extract rfl rfl) ?_
    refine wr_y rfl (y_assign rfl) ?_
    refine wr_y rfl (y_assign rfl) ?_
    refine wr_nil ?_
    refine w_seq ?_
    refine w_reg ?_
    refine wr_y rfl (y_move rfl) ?_
    refine wr_a rfl (a_callF en16 rfl (Ct.quiet (fun w hw => root5_ct ((h_t.c _) w hw) (by first | assumption | omega | decide) (by first | assumption | omega | decide) (by first | assumption | omega | decide)))) ?_
    rintro _ _ ⟨rfl, rfl⟩
    have hr0 := rl_range (u := t) (by omega)
    refine wr_y rfl (y_move rfl) ?_
    refine wr_y rfl (y_extract rfl rfl) ?_
    refine wr_y rfl (y_extract rfl rfl) ?_
    refine wr_y rfl (y_assign rfl) ?_
    refine wr_y rfl (y_assign rfl) ?_
    refine wr_nil ?_
    refine w_seq ?_
    refine w_regd mixed ?_
    refine wd_y 0 rfl (by kernel_rfl) rfl (y_move rfl) ?_
    refine wd_y 1 rfl (by kernel_rfl) rfl (y_move rfl) ?_
    refine wd_y 3 rfl (by kernel_rfl) rfl (y_move rfl) ?_
    refine wd_y 4 rfl (by kernel_rfl) rfl (y_move rfl) ?_
    refine wd_a 2 rfl (by kernel_rfl) rfl (a_callF en17 rfl (Ct.fresh (fun w hw => times_ct ((h_u.c _) w hw) (by first | assumption | omega | decide) (by omega)))) ?_
    rintro _ _ ⟨_, rfl, A_1, c_2, rfl, rfl⟩
    refine ⟨.inr fun _ h => h.right (R' := [_]), ?_⟩
    refine wd_a 5 rfl (by kernel_rfl) rfl (a_callF en17 rfl (Ct.fresh (fun w hw => times_ct ((h_u.c _) w hw) (by first | assumption | omega | decide) (by omega)))) ?_
    rintro _ _ ⟨_, rfl, A_4, c_5, rfl, rfl⟩
    refine ⟨.inr fun _ h => h.right (R' := [_]), ?_⟩
    refine wd_a 6 rfl (by kernel_rfl) rfl (a_callF en13 rfl (Ct.quiet (fun w hw => compareO_ct ((rdr 1 rfl) w hw) ((rdr 0 rfl) w hw) (by have := rep_le (u := u) (a := a) (N := 20) (by omega) (by omega); omega) (by have := rep_le (u := u) (a := b) (N := 20) (by omega) (by omega); omega)))) ?_
    rintro _ _ ⟨rfl, rfl⟩
    refine ⟨.inr fun _ h => h, ?_⟩
    refine wd_y 7 rfl (by kernel_rfl) rfl (Yl.t (y_eq rfl rfl) (cmpO_rep (by omega) (by omega) (by omega))) ?_
    refine wd_y 8 rfl (by kernel_rfl) rfl (y_move rfl) ?_
    refine wd_yg 9 rfl (by kernel_rfl) rfl rfl rfl (y_move rfl) ?_
    refine wd_yg 10 rfl (by kernel_rfl) rfl rfl rfl (y_move rfl) ?_
    refine wd_yg 13 rfl (by kernel_rfl) rfl rfl rfl (y_move rfl) ?_
    refine wd_yg 14 rfl (by kernel_rfl) rfl rfl rfl (y_toStr Try.underlying22 Try.underlying5 Try.underlying9 rfl (RdC.toI (h_u.c _) (by omega))) ?_
    refine wd_yg 15 rfl (by kernel_rfl) rfl rfl rfl (y_move rfl) ?_
    refine wd_yg 16 rfl (by kernel_rfl) rfl rfl rfl (y_toStr Try.underlying22 Try.underlying5 Try.underlying9 rfl (RdC.toI (h_t.c _) (by omega))) ?_
    refine wd_yg 17 rfl (by kernel_rfl) rfl rfl rfl (y_eqL rfl rfl (ByteL.take bh_u _) (ByteL.take bh_t _)) ?_
    refine wd_ag 11 rfl (by kernel_rfl) rfl rfl rfl (a_callF en13 rfl (Ct.quiet (fun w hw => compareO_ct ((h_u.c _) w hw) ((h_t.c _) w hw) (by first | assumption | omega | decide) (by first | assumption | omega | decide)))) ?_
    rintro _ _ ⟨rfl, rfl⟩
    refine ⟨.inr fun _ h => h, ?_⟩
    refine wd_yg 12 rfl (by kernel_rfl) rfl rfl rfl (y_eq rfl rfl) ?_
    refine wd_yg 18 rfl (by kernel_rfl) rfl rfl rfl (Yl.t (y_eqB Try.underlying4 rfl rfl) (by rw [decide_eq_decide]; exact root_same (by omega) (by omega))) ?_
    refine wd_y 19 rfl (by kernel_rfl) rfl (y_pickT rfl rfl) ?_
    refine wd_y 20 rfl (by kernel_rfl) rfl (y_move rfl) ?_
    refine wd_ag 21 rfl (by kernel_rfl) rfl rfl rfl (a_callF en15 rfl (Ct.quiet (fun w hw => known8_ct))) ?_
    rintro _ _ ⟨rfl, rfl⟩
    refine ⟨.inr fun _ h => h, ?_⟩
    refine wd_y 22 rfl (by kernel_rfl) rfl (y_pickT rfl rfl) ?_
    refine wd_y 23 rfl (by kernel_rfl) rfl (y_assign rfl) ?_
    refine wd_nil (by kernel_rfl) ?_
    refine w_retR (R1 := []) (fun _ h => h.sel [] (by decide) rfl) ?_
    refine ⟨_, rfl, ?_⟩
    rfl

end Go.Proofs.Ytffekklhmdoceaa
