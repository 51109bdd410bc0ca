/- Walks of Go functions, printed by a program of our own. -/
import Derived.Test.YtlagmdccneompaaG5
import Derived.Test.YtlagmdccneompaaQ20
namespace Go.Proofs.Ytlagmdccneompaa
open Go Go.Eng Go.Pure
set_option linter.unusedVariables false
theorem known_out {o : List Int} (hl : o.length = 6) (hq : ∀ q : Nat, q < 6 → rd o (rkS [98, 97, 110, 97, 110, 97] 6 q) = q) : o = [5, 3, 1, 0, 4, 2] := by
  refine list_ext_rd hl fun j h0 h1 => ?_
  have e : ∀ q p : Nat, q < 6 → rkS [98, 97, 110, 97, 110, 97] 6 q = p → rd o p = q := fun q p h hp => by rw [← hp]; exact hq q h
  have : j = 0 ∨ j = 1 ∨ j = 2 ∨ j = 3 ∨ j = 4 ∨ j = 5 := by omega
  rcases this with rfl | rfl | rfl | rfl | rfl | rfl
  · exact e 5 0 (by decide) (by decide +kernel)
  · exact e 3 1 (by decide) (by decide +kernel)
  · exact e 1 2 (by decide) (by decide +kernel)
  · exact e 0 3 (by decide) (by decide +kernel)
  · exact e 4 4 (by decide) (by decide +kernel)
  · exact e 2 5 (by decide) (by decide +kernel)
/-! whorl/whorllaw15.known -/
set_option maxRecDepth 100000 in
theorem known15_ct {w : World}  :
    Ct Try.prog 22 #[] w.heap.size w [] (fun v R' => v = .bool true) := by
  refine fn1 Try.func22 rfl rfl rfl ?_
  refine w_seq ?_
  refine w_reg ?_
  refine wr_y rfl (y_assign rfl) ?_
  refine wr_nil ?_
  refine w_seq ?_
  refine w_reg ?_
  refine wr_a rfl (a_litI .u8 [98, 97, 110, 97, 110, 97] Try.underlying31 zs5 rfl rfl rfl) ?_
  rintro _ _ ⟨g_2, rfl, rfl⟩
  refine wr_a rfl (a_mark 0 rfl rfl Try.underlying31 Try.underlying5 rfl rfl) ?_
  rintro _ _ ⟨rfl, rfl⟩
  refine wr_rows (R1 := [⟨5, 1, (some ⟨g_2, 0, none⟩), 6, 6, ints .u8 ([98, 97, 110, 97, 110, 97]), true⟩]) rfl ?_
  refine wr_a rfl (a_callF en23 rfl (Ct.fresh (fun w hw => bytes15_ct ((rdr 0 rfl) w hw) (by show ByteL [98, 97, 110, 97, 110, 97]; unfold ByteL; decide) (by show [98, 97, 110, 97, 110, 97].length ≤ 100000; decide)))) ?_
  rintro _ _ ⟨_, rfl, o1, A_3, c_4, rfl, hl_o1, hq_o1, rfl⟩
  refine wr_y rfl (y_move rfl) ?_
  refine wr_y rfl (y_extract rfl rfl) ?_
  refine wr_y rfl (y_extract rfl rfl) ?_
  refine wr_y rfl (y_assign rfl) ?_
  refine wr_y rfl (y_assign rfl) ?_
  refine wr_nil ?_
  refine w_seq ?_
  refine w_reg ?_
  refine wr_y rfl (y_move rfl) ?_
  refine wr_y rfl (Yl.t (y_eq rfl rfl) (rfl)) ?_
  refine wr_y rfl (y_move rfl) ?_
  refine wr_yes rfl rfl ?_
  refine wr_y rfl (y_move rfl) ?_
  refine wr_yes rfl rfl ?_
  refine wr_a rfl (a_litI .i64 [5, 3, 1, 0, 4, 2] Try.underlying22 zs3 rfl rfl rfl) ?_
  rintro _ _ ⟨g_7, rfl, rfl⟩
  refine wr_yes rfl rfl ?_
  refine wr_a rfl (a_callF en21 rfl (Ct.quiet (fun w hw => ints4_ct ((rdr 1 rfl) w hw) ((rdr 0 rfl) w hw) (by rw [hl_o1]; decide)))) ?_
  rintro _ _ ⟨rfl, rfl⟩
  refine wr_setT 14 rfl (known_out hl_o1 hq_o1) ?_
  refine wr_y rfl (y_pickT rfl rfl) ?_
  refine wr_y rfl (y_assign rfl) ?_
  refine wr_nil ?_
  refine w_retR (R1 := []) (fun _ h => h.sel [] (by decide) rfl) ?_
  refine ⟨_, rfl, ?_⟩
  rfl

/-! whorl/whorllaw15.DoubleInts -/
set_option maxRecDepth 100000 in
theorem dIntsA_ct {w : World} {A_s : Option Addr} {n_s c_s : Nat} {s : List Int} {k : Int} (h_s : Rd w A_s n_s c_s 1 (ints .i64 s)) (hok : (0 ≤ k ∧ k ≤ 1048576) ∧ ∀ x ∈ s, 0 ≤ x ∧ x < k) :
    Ct Try.prog 3 #[.slice A_s n_s c_s, .int .i64 k] w.heap.size w [] (fun v R' => v = .bool true) := by
  obtain rfl := h_s.lenI
  refine fn1 Try.func3 rfl rfl rfl ?_
  have m_s := h_s.max
  refine w_seq ?_
  refine w_reg ?_
  refine wr_y rfl (y_assign rfl) ?_
  refine wr_nil ?_
  refine w_seq ?_
  refine w_seq ?_
  refine w_reg ?_
  refine wr_y rfl (y_move rfl) ?_
  refine wr_y rfl (y_len Try.underlying22 rfl) ?_
  refine wr_y rfl (y_gt rfl rfl) ?_
  refine wr_y rfl (y_move rfl) ?_
  refine wr_mid 7 [(0, .slice A_s s.length c_s), (1, .int .i64 k), (19, .bool (decide ((120 < ((s.length : Nat) : Int)) ∨ ((5000 < k) ∧ (k ≤ 1048576)))))] [] ?_ ?_
  ·
    refine wr_case 12 rfl (fun hc1 => ?_) (fun hc1 => ?_)
    ·
      refine wr_no rfl rfl rfl rfl ?_
      refine wr_no rfl rfl rfl rfl ?_
      refine wr_no rfl rfl rfl rfl ?_
      refine wr_nou rfl rfl rfl ?_
      refine wr_nou rfl rfl rfl ?_
      refine wr_no rfl rfl rfl rfl ?_
      refine wr_y rfl (y_pickT rfl rfl) ?_
      refine wr_nil ?_
      exact ⟨(Sub.cons rfl (Sub.cons rfl (Sub.to rfl (mb_t (by first | omega | simp [*])) Sub.nil))), fun _ h => h⟩
    ·
      refine wr_yes rfl rfl ?_
      refine wr_y rfl (y_move rfl) ?_
      refine wr_yes rfl rfl ?_
      refine wr_y rfl (y_gt rfl rfl) ?_
      refine wr_yes rfl rfl ?_
      refine wr_y rfl (y_move rfl) ?_
      refine wr_mid 3 [(0, .slice A_s s.length c_s), (1, .int .i64 k), (12, .bool false), (18, .bool (decide ((5000 < k) ∧ (k ≤ 1048576))))] [] ?_ ?_
      ·
        refine wr_case 15 rfl (fun hc2 => ?_) (fun hc2 => ?_)
        ·
          refine wr_yes rfl rfl ?_
          refine wr_y rfl (y_move rfl) ?_
          refine wr_yes rfl rfl ?_
          refine wr_y rfl (y_le rfl rfl) ?_
          refine wr_yes rfl rfl ?_
          refine wr_y rfl (y_pickT rfl rfl) ?_
          refine wr_nil ?_
          exact ⟨(Sub.cons rfl (Sub.cons rfl (Sub.cons rfl (Sub.to rfl (mb (by first | omega | simp [*])) Sub.nil)))), fun _ h => h⟩
        ·
          refine wr_no rfl rfl rfl rfl ?_
          refine wr_no rfl rfl rfl rfl ?_
          refine wr_yes rfl rfl ?_
          refine wr_y rfl (y_pickF rfl rfl) ?_
          refine wr_nil ?_
          exact ⟨(Sub.cons rfl (Sub.cons rfl (Sub.cons rfl (Sub.to rfl (mb_f (by first | omega | simp [*])) Sub.nil)))), fun _ h => h⟩
      refine wr_y rfl (y_pickF rfl rfl) ?_
      refine wr_nil ?_
      exact ⟨(Sub.cons rfl (Sub.cons rfl (Sub.to rfl (mb (by first | omega | simp [*])) Sub.nil))), fun _ h => h⟩
  refine wr_nil ?_
  refine w_if rfl (fun hc3 => ?_) (fun hc3 => ?_)
  ·
    refine w_seq ?_
    refine w_reg ?_
    refine wr_y rfl (y_assign rfl) ?_
    refine wr_nil ?_
    refine w_ret ?_
    refine ⟨_, rfl, ?_⟩
    rfl
  ·
    refine w_skip ?_
    refine w_seq ?_
    refine w_reg ?_
    refine wr_y rfl (y_move rfl) ?_
    refine wr_y rfl (y_move rfl) ?_
    refine wr_a rfl (a_callF en19 rfl (Ct.fresh (fun w hw => ints15_ct ((h_s.c _) w hw) (by first | assumption | omega | decide) (by omega)))) ?_
    rintro _ _ ⟨_, rfl, o1, A_1, c_2, rfl, hl_o1, hq_o1, rfl⟩
    refine wr_y rfl (y_move rfl) ?_
    refine wr_y rfl (y_extract rfl rfl) ?_
    refine wr_y rfl (y_extract rfl rfl) ?_
    refine wr_y rfl (y_assign rfl) ?_
    refine wr_y rfl (y_assign rfl) ?_
    refine wr_nil ?_
    refine w_seq ?_
    refine w_reg ?_
    refine wr_y rfl (y_move rfl) ?_
    refine wr_y rfl (y_move rfl) ?_
    refine wr_a rfl (a_callF en20 rfl (Ct.fresh (fun w hw => ints13_ct ((h_s.c _) w hw) (by first | assumption | omega | decide) (by omega)))) ?_
    rintro _ _ ⟨_, rfl, b1, A_4, c_5, rfl, hp_b1, hs_b1, rfl⟩
    refine wr_y rfl (y_move rfl) ?_
    refine wr_y rfl (y_extract rfl rfl) ?_
    refine wr_y rfl (y_extract rfl rfl) ?_
    refine wr_y rfl (y_assign rfl) ?_
    refine wr_y rfl (y_assign rfl) ?_
    refine wr_nil ?_
    refine w_seq ?_
    refine w_reg ?_
    refine wr_y rfl (y_move rfl) ?_
    refine wr_y rfl (y_move rfl) ?_
    refine wr_a rfl (a_callF en21 rfl (Ct.quiet (fun w hw => ints4_ct ((rdr 1 rfl) w hw) ((rdr 0 rfl) w hw) (by rw [hl_o1]; omega)))) ?_
    rintro _ _ ⟨rfl, rfl⟩
    refine wr_setT 34 rfl (places hp_b1 hs_b1 hl_o1 hq_o1) ?_
    refine wr_y rfl (y_move rfl) ?_
    refine wr_yes rfl rfl ?_
    refine wr_y rfl (y_move rfl) ?_
    refine wr_yes rfl rfl ?_
    refine wr_y rfl (y_move rfl) ?_
    refine wr_yes rfl rfl ?_
    refine wr_y rfl (Yl.t (y_eq rfl rfl) (rfl)) ?_
    refine wr_y rfl (y_pickT rfl rfl) ?_
    refine wr_y rfl (y_move rfl) ?_
    refine wr_yes rfl rfl ?_
    refine wr_a rfl (a_callF en22 rfl (Ct.quiet (fun w hw => known15_ct))) ?_
    rintro _ _ ⟨rfl, rfl⟩
    refine wr_y rfl (y_pickT rfl rfl) ?_
    refine wr_y rfl (y_assign rfl) ?_
    refine wr_nil ?_
    refine w_retR (R1 := []) (fun _ h => h.sel [] (by decide) rfl) ?_
    refine ⟨_, rfl, ?_⟩
    rfl

/-! whorl/whorllaw15.DoubleInts -/
set_option maxRecDepth 100000 in
theorem dIntsB_ct {w : World} {A_s : Option Addr} {n_s c_s : Nat} {s : List Int} {k : Int} (h_s : Rd w A_s n_s c_s 1 (ints .i64 s)) (hno : ¬ ((0 ≤ k ∧ k ≤ 1048576) ∧ ∀ x ∈ s, 0 ≤ x ∧ x < k)) :
    Ct Try.prog 3 #[.slice A_s n_s c_s, .int .i64 k] w.heap.size w [] (fun v R' => v = .bool true) := by
  obtain rfl := h_s.lenI
  refine fn1 Try.func3 rfl rfl rfl ?_
  have m_s := h_s.max
  refine w_seq ?_
  refine w_reg ?_
  refine wr_y rfl (y_assign rfl) ?_
  refine wr_nil ?_
  refine w_seq ?_
  refine w_seq ?_
  refine w_reg ?_
  refine wr_y rfl (y_move rfl) ?_
  refine wr_y rfl (y_len Try.underlying22 rfl) ?_
  refine wr_y rfl (y_gt rfl rfl) ?_
  refine wr_y rfl (y_move rfl) ?_
  refine wr_mid 7 [(0, .slice A_s s.length c_s), (1, .int .i64 k), (19, .bool (decide ((120 < ((s.length : Nat) : Int)) ∨ ((5000 < k) ∧ (k ≤ 1048576)))))] [] ?_ ?_
  ·
    refine wr_case 12 rfl (fun hc1 => ?_) (fun hc1 => ?_)
    ·
      refine wr_no rfl rfl rfl rfl ?_
      refine wr_no rfl rfl rfl rfl ?_
      refine wr_no rfl rfl rfl rfl ?_
      refine wr_nou rfl rfl rfl ?_
      refine wr_nou rfl rfl rfl ?_
      refine wr_no rfl rfl rfl rfl ?_
      refine wr_y rfl (y_pickT rfl rfl) ?_
      refine wr_nil ?_
      exact ⟨(Sub.cons rfl (Sub.cons rfl (Sub.to rfl (mb_t (by first | omega | simp [*])) Sub.nil))), fun _ h => h⟩
    ·
      refine wr_yes rfl rfl ?_
      refine wr_y rfl (y_move rfl) ?_
      refine wr_yes rfl rfl ?_
      refine wr_y rfl (y_gt rfl rfl) ?_
      refine wr_yes rfl rfl ?_
      refine wr_y rfl (y_move rfl) ?_
      refine wr_mid 3 [(0, .slice A_s s.length c_s), (1, .int .i64 k), (12, .bool false), (18, .bool (decide ((5000 < k) ∧ (k ≤ 1048576))))] [] ?_ ?_
      ·
        refine wr_case 15 rfl (fun hc2 => ?_) (fun hc2 => ?_)
        ·
          refine wr_yes rfl rfl ?_
          refine wr_y rfl (y_move rfl) ?_
          refine wr_yes rfl rfl ?_
          refine wr_y rfl (y_le rfl rfl) ?_
          refine wr_yes rfl rfl ?_
          refine wr_y rfl (y_pickT rfl rfl) ?_
          refine wr_nil ?_
          exact ⟨(Sub.cons rfl (Sub.cons rfl (Sub.cons rfl (Sub.to rfl (mb (by first | omega | simp [*])) Sub.nil)))), fun _ h => h⟩
        ·
          refine wr_no rfl rfl rfl rfl ?_
          refine wr_no rfl rfl rfl rfl ?_
          refine wr_yes rfl rfl ?_
          refine wr_y rfl (y_pickF rfl rfl) ?_
          refine wr_nil ?_
          exact ⟨(Sub.cons rfl (Sub.cons rfl (Sub.cons rfl (Sub.to rfl (mb_f (by first | omega | simp [*])) Sub.nil)))), fun _ h => h⟩
      refine wr_y rfl (y_pickF rfl rfl) ?_
      refine wr_nil ?_
      exact ⟨(Sub.cons rfl (Sub.cons rfl (Sub.to rfl (mb (by first | omega | simp [*])) Sub.nil))), fun _ h => h⟩
  refine wr_nil ?_
  refine w_if rfl (fun hc3 => ?_) (fun hc3 => ?_)
  ·
    refine w_seq ?_
    refine w_reg ?_
    refine wr_y rfl (y_assign rfl) ?_
    refine wr_nil ?_
    refine w_ret ?_
    refine ⟨_, rfl, ?_⟩
    rfl
  ·
    refine w_skip ?_
    refine w_seq ?_
    refine w_reg ?_
    refine wr_y rfl (y_move rfl) ?_
    refine wr_y rfl (y_move rfl) ?_
    refine wr_a rfl (a_callF en19 rfl (Ct.quiet (fun w hw => ints15no_ct ((h_s.c _) w hw) (by first | assumption | omega | decide) (by omega)))) ?_
    rintro _ _ ⟨rfl, rfl⟩
    refine wr_y rfl (y_move rfl) ?_
    refine wr_y rfl (y_extract rfl rfl) ?_
    refine wr_y rfl (y_extract rfl rfl) ?_
    refine wr_y rfl (y_assign rfl) ?_
    refine wr_y rfl (y_assign rfl) ?_
    refine wr_nil ?_
    refine w_seq ?_
    refine w_reg ?_
    refine wr_y rfl (y_move rfl) ?_
    refine wr_y rfl (y_move rfl) ?_
    refine wr_a rfl (a_callF en20 rfl (Ct.quiet (fun w hw => ints13no_ct ((h_s.c _) w hw) (by first | assumption | omega | decide) (by omega)))) ?_
    rintro _ _ ⟨rfl, rfl⟩
    refine wr_y rfl (y_move rfl) ?_
    refine wr_y rfl (y_extract rfl rfl) ?_
    refine wr_y rfl (y_extract rfl rfl) ?_
    refine wr_y rfl (y_assign rfl) ?_
    refine wr_y rfl (y_assign rfl) ?_
    refine wr_nil ?_
    refine w_seq ?_
    refine w_reg ?_
    refine wr_y rfl (y_move rfl) ?_
    refine wr_y rfl (y_move rfl) ?_
    refine wr_a rfl (a_callF en21 rfl (Ct.quiet (fun w hw => ints4_ct ((rd_nil _) w hw) ((rd_nil _) w hw) (by decide)))) ?_
    rintro _ _ ⟨rfl, rfl⟩
    refine wr_setT 34 rfl (rfl) ?_
    refine wr_y rfl (y_move rfl) ?_
    refine wr_yes rfl rfl ?_
    refine wr_y rfl (y_move rfl) ?_
    refine wr_yes rfl rfl ?_
    refine wr_y rfl (y_move rfl) ?_
    refine wr_yes rfl rfl ?_
    refine wr_y rfl (Yl.t (y_eq rfl rfl) (rfl)) ?_
    refine wr_y rfl (y_pickT rfl rfl) ?_
    refine wr_y rfl (y_move rfl) ?_
    refine wr_yes rfl rfl ?_
    refine wr_a rfl (a_callF en22 rfl (Ct.quiet (fun w hw => known15_ct))) ?_
    rintro _ _ ⟨rfl, rfl⟩
    refine wr_y rfl (y_pickT rfl rfl) ?_
    refine wr_y rfl (y_assign rfl) ?_
    refine wr_nil ?_
    refine w_ret ?_
    refine ⟨_, rfl, ?_⟩
    rfl

theorem doubleInts_ct {w : World} {A_s : Option Addr} {n_s c_s : Nat} {s : List Int} {k : Int} (h_s : Rd w A_s n_s c_s 1 (ints .i64 s)) :
    Ct Try.prog 3 #[.slice A_s n_s c_s, .int .i64 k] w.heap.size w [] (fun v R' => v = .bool true) := by
  by_cases hcase : (0 ≤ k ∧ k ≤ 1048576) ∧ ∀ x ∈ s, 0 ≤ x ∧ x < k
  · exact dIntsA_ct h_s hcase
  · exact dIntsB_ct h_s hcase
/-! whorl/whorllaw15.DoubleBytes -/
set_option maxRecDepth 100000 in
theorem doubleBytes_ct {w : World} {A_u : Option Addr} {n_u c_u : Nat} {u : List Int} (h_u : Rd w A_u n_u c_u 1 (ints .u8 u)) (bh_u : ByteL u) :
    Ct Try.prog 4 #[.slice A_u n_u c_u] w.heap.size w [] (fun v R' => v = .bool true) := by
  obtain rfl := h_u.lenI
  refine fn1 Try.func4 rfl rfl rfl ?_
  have m_u := h_u.max
  refine w_seq ?_
  refine w_reg ?_
  refine wr_y rfl (y_assign rfl) ?_
  refine wr_nil ?_
  refine w_seq ?_
  refine w_seq ?_
  refine w_reg ?_
  refine wr_y rfl (y_move rfl) ?_
  refine wr_y rfl (y_len Try.underlying31 rfl) ?_
  refine wr_y rfl (y_gt rfl rfl) ?_
  refine wr_nil ?_
  refine w_if rfl (fun hc1 => ?_) (fun hc1 => ?_)
  ·
    refine w_seq ?_
    refine w_reg ?_
    refine wr_y rfl (y_assign rfl) ?_
    refine wr_nil ?_
    refine w_ret ?_
    refine ⟨_, rfl, ?_⟩
    rfl
  ·
    refine w_skip ?_
    refine w_seq ?_
    refine w_reg ?_
    refine wr_y rfl (y_move rfl) ?_
    refine wr_a rfl (a_callF en23 rfl (Ct.fresh (fun w hw => bytes15_ct ((h_u.c _) w hw) (by first | assumption | omega | decide) (by omega)))) ?_
    rintro _ _ ⟨_, rfl, o1, A_1, c_2, rfl, hl_o1, hq_o1, rfl⟩
    refine wr_y rfl (y_move rfl) ?_
    refine wr_y rfl (y_extract rfl rfl) ?_
    refine wr_y rfl (y_extract rfl rfl) ?_
    refine wr_y rfl (y_assign rfl) ?_
    refine wr_y rfl (y_assign rfl) ?_
    refine wr_nil ?_
    refine w_seq ?_
    refine w_reg ?_
    refine wr_y rfl (y_move rfl) ?_
    refine wr_y rfl (Yl.t (y_eq rfl rfl) (rfl)) ?_
    refine wr_y rfl (y_move rfl) ?_
    refine wr_yes rfl rfl ?_
    refine wr_y rfl (y_move rfl) ?_
    refine wr_yes rfl rfl ?_
    refine wr_y rfl (y_move rfl) ?_
    refine wr_yes rfl rfl ?_
    refine wr_a rfl (a_callF en24 rfl (Ct.fresh (fun w hw => bytes13_ct ((h_u.c _) w hw) (by first | assumption | omega | decide) (by omega)))) ?_
    rintro _ _ ⟨_, rfl, b1, A_4, c_5, rfl, hp_b1, hs_b1, rfl⟩
    refine wr_yes rfl rfl ?_
    refine wr_a rfl (a_callF en21 rfl (Ct.quiet (fun w hw => ints4_ct ((rdr 1 rfl) w hw) ((rdr 0 rfl) w hw) (by rw [hl_o1]; omega)))) ?_
    rintro _ _ ⟨rfl, rfl⟩
    refine wr_setT 19 rfl (places hp_b1 hs_b1 hl_o1 hq_o1) ?_
    refine wr_y rfl (y_pickT rfl rfl) ?_
    refine wr_y rfl (y_move rfl) ?_
    refine wr_yes rfl rfl ?_
    refine wr_a rfl (a_callF en22 rfl (Ct.quiet (fun w hw => known15_ct))) ?_
    rintro _ _ ⟨rfl, rfl⟩
    refine wr_y rfl (y_pickT rfl rfl) ?_
    refine wr_y rfl (y_assign rfl) ?_
    refine wr_nil ?_
    refine w_retR (R1 := []) (fun _ h => h.sel [] (by decide) rfl) ?_
    refine ⟨_, rfl, ?_⟩
    rfl

/-! whorl/whorllaw15.DoubleRuns -/
set_option maxRecDepth 100000 in
theorem doubleRuns_ct {w : World} {A_a : Option Addr} {n_a c_a : Nat} {a : List Int} {times : Int} {A_b : Option Addr} {n_b c_b : Nat} {b : List Int} (h_a : Rd w A_a n_a c_a 1 (ints .u8 a)) (h_b : Rd w A_b n_b c_b 1 (ints .u8 b)) (bh_a : ByteL a) (bh_b : ByteL b) :
    Ct Try.prog 5 #[.slice A_a n_a c_a, .int .i64 times, .slice A_b n_b c_b] w.heap.size w [] (fun v R' => v = .bool true) := by
  obtain rfl := h_a.lenI
  obtain rfl := h_b.lenI
  refine fn1 Try.func5 rfl rfl rfl ?_
  have m_a := h_a.max
  have m_b := h_b.max
  refine w_seq ?_
  refine w_reg ?_
  refine wr_y rfl (y_assign rfl) ?_
  refine wr_nil ?_
  refine w_seq ?_
  refine w_seq ?_
  refine w_reg ?_
  refine wr_y rfl (y_move rfl) ?_
  refine wr_y rfl (y_len Try.underlying31 rfl) ?_
  refine wr_y rfl (y_gt rfl rfl) ?_
  refine wr_y rfl (y_move rfl) ?_
  refine wr_mid 3 [(0, .slice A_a a.length c_a), (1, .int .i64 times), (2, .slice A_b b.length c_b), (17, .bool (decide ((10 < ((a.length : Nat) : Int)) ∨ (times < 0))))] [] ?_ ?_
  ·
    refine wr_case 14 rfl (fun hc1 => ?_) (fun hc1 => ?_)
    ·
      refine wr_no rfl rfl rfl rfl ?_
      refine wr_no rfl rfl rfl rfl ?_
      refine wr_y rfl (y_pickT rfl rfl) ?_
      refine wr_nil ?_
      exact ⟨(Sub.cons rfl (Sub.cons rfl (Sub.cons rfl (Sub.to rfl (mb_t (by first | omega | simp [*])) Sub.nil)))), fun _ h => h⟩
    ·
      refine wr_yes rfl rfl ?_
      refine wr_y rfl (y_move rfl) ?_
      refine wr_yes rfl rfl ?_
      refine wr_y rfl (y_lt rfl rfl) ?_
      refine wr_y rfl (y_pickF rfl rfl) ?_
      refine wr_nil ?_
      exact ⟨(Sub.cons rfl (Sub.cons rfl (Sub.cons rfl (Sub.to rfl (mb (by first | omega | simp [*])) Sub.nil)))), fun _ h => h⟩
  refine wr_y rfl (y_move rfl) ?_
  refine wr_mid 3 [(0, .slice A_a a.length c_a), (1, .int .i64 times), (2, .slice A_b b.length c_b), (21, .bool (decide (((10 < ((a.length : Nat) : Int)) ∨ (times < 0)) ∨ (20 < times))))] [] ?_ ?_
  ·
    refine wr_case 18 rfl (fun hc2 => ?_) (fun hc2 => ?_)
    ·
      refine wr_no rfl rfl rfl rfl ?_
      refine wr_no rfl rfl rfl rfl ?_
      refine wr_y rfl (y_pickT rfl rfl) ?_
      refine wr_nil ?_
      exact ⟨(Sub.cons rfl (Sub.cons rfl (Sub.cons rfl (Sub.to rfl (mb_t (by first | omega | simp [*])) Sub.nil)))), fun _ h => h⟩
    ·
      refine wr_yes rfl rfl ?_
      refine wr_y rfl (y_move rfl) ?_
      refine wr_yes rfl rfl ?_
      refine wr_y rfl (y_gt rfl rfl) ?_
      refine wr_y rfl (y_pickF rfl rfl) ?_
      refine wr_nil ?_
      exact ⟨(Sub.cons rfl (Sub.cons rfl (Sub.cons rfl (Sub.to rfl (mb (by first | omega | simp [*])) Sub.nil)))), fun _ h => h⟩
  refine wr_y rfl (y_move rfl) ?_
  refine wr_mid 4 [(0, .slice A_a a.length c_a), (1, .int .i64 times), (2, .slice A_b b.length c_b), (26, .bool (decide ((((10 < ((a.length : Nat) : Int)) ∨ (times < 0)) ∨ (20 < times)) ∨ (10 < ((b.length : Nat) : Int)))))] [] ?_ ?_
  ·
    refine wr_case 22 rfl (fun hc3 => ?_) (fun hc3 => ?_)
    ·
      refine wr_no rfl rfl rfl rfl ?_
      refine wr_no rfl rfl rfl rfl ?_
      refine wr_no rfl rfl rfl rfl ?_
      refine wr_y rfl (y_pickT rfl rfl) ?_
      refine wr_nil ?_
      exact ⟨(Sub.cons rfl (Sub.cons rfl (Sub.cons rfl (Sub.to rfl (mb_t (by first | omega | simp [*])) Sub.nil)))), fun _ h => h⟩
    ·
      refine wr_yes rfl rfl ?_
      refine wr_y rfl (y_move rfl) ?_
      refine wr_yes rfl rfl ?_
      refine wr_y rfl (y_len Try.underlying31 rfl) ?_
      refine wr_yes rfl rfl ?_
      refine wr_y rfl (y_gt rfl rfl) ?_
      refine wr_y rfl (y_pickF rfl rfl) ?_
      refine wr_nil ?_
      exact ⟨(Sub.cons rfl (Sub.cons rfl (Sub.cons rfl (Sub.to rfl (mb (by first | omega | simp [*])) Sub.nil)))), fun _ h => h⟩
  refine wr_nil ?_
  refine w_if rfl (fun hc4 => ?_) (fun hc4 => ?_)
  ·
    refine w_seq ?_
    refine w_reg ?_
    refine wr_y rfl (y_assign rfl) ?_
    refine wr_nil ?_
    refine w_ret ?_
    refine ⟨_, rfl, ?_⟩
    rfl
  ·
    refine w_skip ?_
    refine w_seq ?_
    refine w_reg ?_
    refine wr_sub (R1 := [⟨5, 1, none, 0, 0, ints .u8 ([]), false⟩]) (Sub.refl _) (fun _ h => h.nil 5 1) ?_
    refine wr_y rfl (y_assign rfl) ?_
    refine wr_nil ?_
    refine w_seq ?_
    refine w_seq ?_
    refine w_reg ?_
    refine wr_y rfl (y_assign rfl) ?_
    refine wr_nil ?_
    refine w_block ?_
    refine w_loop5 (fun (A1 : Option Addr) (n1 : Nat) (c1 : Nat) (acc : List Int) (i : Int) => [(0, .slice A_a a.length c_a), (1, .int .i64 times), (2, .slice A_b b.length c_b), (7, .slice A1 n1 c1), (8, .int .i64 i)]) (fun (A1 : Option Addr) (n1 : Nat) (c1 : Nat) (acc : List Int) (i : Int) => [⟨5, 1, A1, n1, c1, ints .u8 acc, false⟩]) (fun (A1 : Option Addr) (n1 : Nat) (c1 : Nat) (acc : List Int) (i : Int) => (n1 = acc.length) ∧ (0 ≤ i) ∧ (i ≤ times) ∧ (acc = rep a i)) (fun (A1 : Option Addr) (n1 : Nat) (c1 : Nat) (acc : List Int) (i : Int) => (times - i).toNat) ?_ ?_
    ·
      exact ⟨none, 0, 0, [], 0, ⟨(rfl), (by omega), (by omega), (rfl)⟩, (Sub.cons rfl (Sub.cons rfl (Sub.cons rfl (Sub.cons rfl (Sub.cons rfl Sub.nil))))), fun _ h => h⟩
    intro A1 n1 c1 acc i ⟨hn1, hi0, hi1, hacc⟩
    have hal : acc.length ≤ 200 := by
      rw [hacc, rep_length]
      have := Nat.mul_le_mul (show i.toNat ≤ 20 by omega) (show a.length ≤ 10 by omega)
      omega
    refine w_seq ?_
    refine w_seq ?_
    refine w_reg ?_
    refine wr_y rfl (y_move rfl) ?_
    refine wr_y rfl (y_move rfl) ?_
    refine wr_y rfl (y_lt rfl rfl) ?_
    refine wr_nil ?_
    refine w_if rfl (fun hc5 => ?_) (fun hc5 => ?_)
    ·
      refine w_skip ?_
      refine w_seq ?_
      refine w_block ?_
      refine w_reg ?_
      refine wr_y rfl (y_move rfl) ?_
      refine wr_y rfl (y_move rfl) ?_
      refine wr_a rfl (a_appendI 0 rfl Try.underlying31 zb5 rfl rfl rfl (h_a.c _) (by omega)) ?_
      rintro _ _ ⟨A_1, c_2, rfl, rfl⟩
      refine wr_rows (R1 := [⟨5, 1, A_1, (n1 + a.length), c_2, ints .u8 (acc ++ a), false⟩]) rfl ?_
      refine wr_as (v := .slice A_1 (n1 + a.length) c_2) rfl ?_
      refine wr_y rfl (y_assign rfl) ?_
      refine wr_nil ?_
      refine w_reg ?_
      refine wr_y rfl (y_move rfl) ?_
      refine wr_y rfl (y_addI rfl rfl (by omega)) ?_
      refine wr_y rfl (y_assign rfl) ?_
      refine wr_nil ?_
      exact ⟨A_1, n1 + a.length, c_2, acc ++ a, i + 1, ⟨(by rw [List.length_append, hn1]), (by omega), (by omega), (by rw [rep_succ hi0, hacc])⟩, (by omega), (Sub.cons rfl (Sub.cons rfl (Sub.cons rfl (Sub.cons rfl (Sub.cons rfl Sub.nil))))), fun _ h => h⟩
    ·
      refine w_exit ?_
      refine w_seq ?_
      refine w_reg ?_
      refine wr_y rfl (y_move rfl) ?_
      refine wr_y rfl (y_move rfl) ?_
      refine wr_a rfl (a_appendI 0 rfl Try.underlying31 zb5 rfl rfl rfl (h_b.c _) (by omega)) ?_
      rintro _ _ ⟨A_3, c_4, rfl, rfl⟩
      refine wr_rows (R1 := [⟨5, 1, A_3, (n1 + b.length), c_4, ints .u8 (acc ++ b), false⟩]) rfl ?_
      refine wr_as (v := .slice A_3 (n1 + b.length) c_4) rfl ?_
      refine wr_y rfl (y_assign rfl) ?_
      refine wr_nil ?_
      refine w_seq ?_
      refine w_reg ?_
      refine wr_y rfl (y_move rfl) ?_
      refine wr_a rfl (a_callF en23 rfl (Ct.fresh (fun w hw => bytes15_ct ((rdr 0 rfl) w hw) (by rw [hacc]; exact (rep_bytes bh_a i).append bh_b) (by rw [List.length_append]; omega)))) ?_
      rintro _ _ ⟨_, rfl, o1, A_5, c_6, rfl, hl_o1, hq_o1, rfl⟩
      refine wr_y rfl (y_move rfl) ?_
      refine wr_y rfl (y_extract rfl rfl) ?_
      refine wr_y rfl (y_extract rfl rfl) ?_
      refine wr_y rfl (y_assign rfl) ?_
      refine wr_y rfl (y_assign rfl) ?_
      refine wr_nil ?_
      refine w_seq ?_
      refine w_reg ?_
      refine wr_y rfl (y_move rfl) ?_
      refine wr_y rfl (Yl.t (y_eq rfl rfl) (rfl)) ?_
      refine wr_y rfl (y_move rfl) ?_
      refine wr_yes rfl rfl ?_
      refine wr_y rfl (y_move rfl) ?_
      refine wr_yes rfl rfl ?_
      refine wr_y rfl (y_move rfl) ?_
      refine wr_yes rfl rfl ?_
      refine wr_a rfl (a_callF en24 rfl (Ct.fresh (fun w hw => bytes13_ct ((rdr 1 rfl) w hw) (by rw [hacc]; exact (rep_bytes bh_a i).append bh_b) (by rw [List.length_append]; omega)))) ?_
      rintro _ _ ⟨_, rfl, b1, A_8, c_9, rfl, hp_b1, hs_b1, rfl⟩
      refine wr_yes rfl rfl ?_
      refine wr_a rfl (a_callF en21 rfl (Ct.quiet (fun w hw => ints4_ct ((rdr 1 rfl) w hw) ((rdr 0 rfl) w hw) (by rw [hl_o1, List.length_append]; omega)))) ?_
      rintro _ _ ⟨rfl, rfl⟩
      refine wr_setT 49 rfl (places hp_b1 hs_b1 hl_o1 hq_o1) ?_
      refine wr_y rfl (y_pickT rfl rfl) ?_
      refine wr_y rfl (y_move rfl) ?_
      refine wr_yes rfl rfl ?_
      refine wr_a rfl (a_callF en22 rfl (Ct.quiet (fun w hw => known15_ct))) ?_
      rintro _ _ ⟨rfl, rfl⟩
      refine wr_y rfl (y_pickT rfl rfl) ?_
      refine wr_y rfl (y_assign rfl) ?_
      refine wr_nil ?_
      refine w_retR (R1 := []) (fun _ h => h.sel [] (by decide) rfl) ?_
      refine ⟨_, rfl, ?_⟩
      rfl

/-! whorl/whorllaw15.DoubleLong -/
set_option maxRecDepth 100000 in
theorem dLongA_ct {w : World} {n : Int} (hA : n ≤ 100000) :
    Ct Try.prog 6 #[.int .i64 n] w.heap.size w [] (fun v R' => v = .bool true) := by
  refine fn1 Try.func6 rfl rfl rfl ?_
  refine w_seq ?_
  refine w_reg ?_
  refine wr_y rfl (y_assign rfl) ?_
  refine wr_nil ?_
  refine w_seq ?_
  refine w_seq ?_
  refine w_reg ?_
  refine wr_y rfl (y_move rfl) ?_
  refine wr_y rfl (y_lt rfl rfl) ?_
  refine wr_y rfl (y_move rfl) ?_
  refine wr_mid 3 [(0, .int .i64 n), (14, .bool (decide ((n < 0) ∨ (100002 < n))))] [] ?_ ?_
  ·
    refine wr_case 11 rfl (fun hc1 => ?_) (fun hc1 => ?_)
    ·
      refine wr_no rfl rfl rfl rfl ?_
      refine wr_no rfl rfl rfl rfl ?_
      refine wr_y rfl (y_pickT rfl rfl) ?_
      refine wr_nil ?_
      exact ⟨(Sub.cons rfl (Sub.to rfl (mb_t (by first | omega | simp [*])) Sub.nil)), fun _ h => h⟩
    ·
      refine wr_yes rfl rfl ?_
      refine wr_y rfl (y_move rfl) ?_
      refine wr_yes rfl rfl ?_
      refine wr_y rfl (y_gt rfl rfl) ?_
      refine wr_y rfl (y_pickF rfl rfl) ?_
      refine wr_nil ?_
      exact ⟨(Sub.cons rfl (Sub.to rfl (mb (by first | omega | simp [*])) Sub.nil)), fun _ h => h⟩
  refine wr_y rfl (y_move rfl) ?_
  refine wr_mid 7 [(0, .int .i64 n), (22, .bool (decide (((n < 0) ∨ (100002 < n)) ∨ ((300 < n) ∧ (n ≤ 100000)))))] [] ?_ ?_
  ·
    refine wr_case 15 rfl (fun hc2 => ?_) (fun hc2 => ?_)
    ·
      refine wr_no rfl rfl rfl rfl ?_
      refine wr_no rfl rfl rfl rfl ?_
      refine wr_no rfl rfl rfl rfl ?_
      refine wr_nou rfl rfl rfl ?_
      refine wr_nou rfl rfl rfl ?_
      refine wr_no rfl rfl rfl rfl ?_
      refine wr_y rfl (y_pickT rfl rfl) ?_
      refine wr_nil ?_
      exact ⟨(Sub.cons rfl (Sub.to rfl (mb_t (by first | omega | simp [*])) Sub.nil)), fun _ h => h⟩
    ·
      refine wr_yes rfl rfl ?_
      refine wr_y rfl (y_move rfl) ?_
      refine wr_yes rfl rfl ?_
      refine wr_y rfl (y_gt rfl rfl) ?_
      refine wr_yes rfl rfl ?_
      refine wr_y rfl (y_move rfl) ?_
      refine wr_mid 3 [(0, .int .i64 n), (15, .bool false), (21, .bool (decide ((300 < n) ∧ (n ≤ 100000))))] [] ?_ ?_
      ·
        refine wr_case 18 rfl (fun hc3 => ?_) (fun hc3 => ?_)
        ·
          refine wr_yes rfl rfl ?_
          refine wr_y rfl (y_move rfl) ?_
          refine wr_yes rfl rfl ?_
          refine wr_y rfl (y_le rfl rfl) ?_
          refine wr_yes rfl rfl ?_
          refine wr_y rfl (y_pickT rfl rfl) ?_
          refine wr_nil ?_
          exact ⟨(Sub.cons rfl (Sub.cons rfl (Sub.to rfl (mb (by first | omega | simp [*])) Sub.nil))), fun _ h => h⟩
        ·
          refine wr_no rfl rfl rfl rfl ?_
          refine wr_no rfl rfl rfl rfl ?_
          refine wr_yes rfl rfl ?_
          refine wr_y rfl (y_pickF rfl rfl) ?_
          refine wr_nil ?_
          exact ⟨(Sub.cons rfl (Sub.cons rfl (Sub.to rfl (mb_f (by first | omega | simp [*])) Sub.nil))), fun _ h => h⟩
      refine wr_y rfl (y_pickF rfl rfl) ?_
      refine wr_nil ?_
      exact ⟨(Sub.cons rfl (Sub.to rfl (mb (by first | omega | simp [*])) Sub.nil)), fun _ h => h⟩
  refine wr_nil ?_
  refine w_if rfl (fun hc4 => ?_) (fun hc4 => ?_)
  ·
    refine w_seq ?_
    refine w_reg ?_
    refine wr_y rfl (y_assign rfl) ?_
    refine wr_nil ?_
    refine w_ret ?_
    refine ⟨_, rfl, ?_⟩
    rfl
  ·
    refine w_skip ?_
    refine w_seq ?_
    refine w_reg ?_
    refine wr_y rfl (y_move rfl) ?_
    refine wr_a rfl (a_makeN Try.underlying31 zb5 rfl rfl (by omega) (by omega) (by omega)) ?_
    rintro _ _ ⟨g_2, rfl, rfl⟩
    refine wr_rows (R1 := [⟨5, 1, (some ⟨g_2, 0, none⟩), ((n).toNat), ((n).toNat), ints .u8 (List.replicate ((n).toNat) (0 : Int)), false⟩]) rfl ?_
    refine wr_as (v := .slice (some ⟨g_2, 0, none⟩) ((n).toNat) ((n).toNat)) rfl ?_
    refine wr_y rfl (y_assign rfl) ?_
    refine wr_nil ?_
    refine w_seq ?_
    refine w_reg ?_
    refine wr_y rfl (y_move rfl) ?_
    refine wr_a rfl (a_callF en23 rfl (Ct.fresh (fun w hw => bytes15_ct ((rdr 0 rfl) w hw) (by intro x hx; have := List.eq_of_mem_replicate hx; omega) (by rw [List.length_replicate]; omega)))) ?_
    rintro _ _ ⟨_, rfl, o1, A_3, c_4, rfl, hl_o1, hq_o1, rfl⟩
    refine wr_y rfl (y_move rfl) ?_
    refine wr_y rfl (y_extract rfl rfl) ?_
    refine wr_y rfl (y_extract rfl rfl) ?_
    refine wr_y rfl (y_assign rfl) ?_
    refine wr_y rfl (y_assign rfl) ?_
    refine wr_nil ?_
    refine w_seq ?_
    refine w_seq ?_
    refine w_reg ?_
    refine wr_y rfl (y_move rfl) ?_
    refine wr_y rfl (Yl.f (y_gt rfl rfl) (by omega)) ?_
    refine wr_nil ?_
    refine w_false rfl ?_
    refine w_skip ?_
    refine w_seq ?_
    refine w_seq ?_
    refine w_reg ?_
    refine wr_y rfl (y_move rfl) ?_
    refine wr_y rfl (Yl.f (y_ne rfl rfl) (by omega)) ?_
    refine wr_y rfl (y_move rfl) ?_
    refine wr_yes rfl rfl ?_
    refine wr_y rfl (y_move rfl) ?_
    refine wr_yes rfl rfl ?_
    refine wr_y rfl (y_len Try.underlying22 rfl) ?_
    refine wr_yes rfl rfl ?_
    refine wr_y rfl (y_move rfl) ?_
    refine wr_yes rfl rfl ?_
    refine wr_y rfl (Yl.f (y_ne rfl rfl) (by rw [List.length_replicate]; omega)) ?_
    refine wr_y rfl (y_pickF rfl rfl) ?_
    refine wr_nil ?_
    refine w_false rfl ?_
    refine w_skip ?_
    refine w_seq ?_
    refine w_seq ?_
    refine w_reg ?_
    refine wr_y rfl (y_assign rfl) ?_
    refine wr_nil ?_
    refine w_block ?_
    refine w_loop1 (fun (i : Int) => [(0, .int .i64 n), (4, .slice A_3 ((List.replicate ((n).toNat) (0 : Int)).length) c_4), (8, .int .i64 i)]) (fun (i : Int) => [⟨3, 1, A_3, (List.replicate ((n).toNat) (0 : Int)).length, c_4, ints .i64 o1, false⟩, ⟨5, 1, (some ⟨g_2, 0, none⟩), ((n).toNat), ((n).toNat), ints .u8 (List.replicate ((n).toNat) (0 : Int)), false⟩]) (fun (i : Int) => (0 ≤ i) ∧ (i ≤ n)) (fun (i : Int) => (n - i).toNat) ?_ ?_
    ·
      exact ⟨0, ⟨(by omega), (by omega)⟩, (Sub.cons rfl (Sub.cons rfl (Sub.cons rfl Sub.nil))), fun _ h => h⟩
    intro i ⟨hi0, hi1⟩
    have hz := zero_order n.toNat
    have ho := places hz.1 hz.2 hl_o1 hq_o1
    refine w_seq ?_
    refine w_seq ?_
    refine w_reg ?_
    refine wr_y rfl (y_move rfl) ?_
    refine wr_y rfl (y_move rfl) ?_
    refine wr_y rfl (y_lt rfl rfl) ?_
    refine wr_nil ?_
    refine w_if rfl (fun hc5 => ?_) (fun hc5 => ?_)
    ·
      refine w_skip ?_
      refine w_seq ?_
      refine w_block ?_
      refine w_seq ?_
      refine w_reg ?_
      refine wr_y rfl (y_move rfl) ?_
      refine wr_y rfl (y_move rfl) ?_
      refine wr_y rfl (y_index1 Try.underlying22 sz3 rfl rfl (rdr 0 rfl) (by first | omega | (rw [List.length_replicate]; omega)) (by first | omega | (rw [List.length_replicate]; omega))) ?_
      refine wr_y rfl (y_ldI Try.underlying3 rfl rfl (rdr 0 rfl) (by first | omega | (rw [List.length_replicate]; omega)) (by first | omega | (rw [List.length_replicate]; omega))) ?_
      refine wr_y rfl (y_move rfl) ?_
      refine wr_y rfl (y_subI rfl rfl (by omega)) ?_
      refine wr_y rfl (y_move rfl) ?_
      refine wr_y rfl (y_subI rfl rfl (by omega)) ?_
      refine wr_y rfl (Yl.f (y_ne rfl rfl) (by rw [ho, rd_range (by omega) (by omega)]; omega)) ?_
      refine wr_nil ?_
      refine w_false rfl ?_
      refine w_skip ?_
      refine w_reg ?_
      refine wr_y rfl (y_move rfl) ?_
      refine wr_y rfl (y_addI rfl rfl (by omega)) ?_
      refine wr_y rfl (y_assign rfl) ?_
      refine wr_nil ?_
      exact ⟨i + 1, ⟨(by omega), (by omega)⟩, (by omega), (Sub.cons rfl (Sub.cons rfl (Sub.cons rfl Sub.nil))), fun _ h => h⟩
    ·
      refine w_exit ?_
      refine w_seq ?_
      refine w_reg ?_
      refine wr_a rfl (a_callF en22 rfl (Ct.quiet (fun w hw => known15_ct))) ?_
      rintro _ _ ⟨rfl, rfl⟩
      refine wr_y rfl (y_assign rfl) ?_
      refine wr_nil ?_
      refine w_retR (R1 := []) (fun _ h => h.sel [] (by decide) rfl) ?_
      refine ⟨_, rfl, ?_⟩
      rfl

/-! whorl/whorllaw15.DoubleLong -/
set_option maxRecDepth 100000 in
theorem dLongB_ct {w : World} {n : Int} (hB : ¬ n ≤ 100000) :
    Ct Try.prog 6 #[.int .i64 n] w.heap.size w [] (fun v R' => v = .bool true) := by
  refine fn1 Try.func6 rfl rfl rfl ?_
  refine w_seq ?_
  refine w_reg ?_
  refine wr_y rfl (y_assign rfl) ?_
  refine wr_nil ?_
  refine w_seq ?_
  refine w_seq ?_
  refine w_reg ?_
  refine wr_y rfl (y_move rfl) ?_
  refine wr_y rfl (y_lt rfl rfl) ?_
  refine wr_y rfl (y_move rfl) ?_
  refine wr_mid 3 [(0, .int .i64 n), (14, .bool (decide ((n < 0) ∨ (100002 < n))))] [] ?_ ?_
  ·
    refine wr_case 11 rfl (fun hc1 => ?_) (fun hc1 => ?_)
    ·
      refine wr_no rfl rfl rfl rfl ?_
      refine wr_no rfl rfl rfl rfl ?_
      refine wr_y rfl (y_pickT rfl rfl) ?_
      refine wr_nil ?_
      exact ⟨(Sub.cons rfl (Sub.to rfl (mb_t (by first | omega | simp [*])) Sub.nil)), fun _ h => h⟩
    ·
      refine wr_yes rfl rfl ?_
      refine wr_y rfl (y_move rfl) ?_
      refine wr_yes rfl rfl ?_
      refine wr_y rfl (y_gt rfl rfl) ?_
      refine wr_y rfl (y_pickF rfl rfl) ?_
      refine wr_nil ?_
      exact ⟨(Sub.cons rfl (Sub.to rfl (mb (by first | omega | simp [*])) Sub.nil)), fun _ h => h⟩
  refine wr_y rfl (y_move rfl) ?_
  refine wr_mid 7 [(0, .int .i64 n), (22, .bool (decide (((n < 0) ∨ (100002 < n)) ∨ ((300 < n) ∧ (n ≤ 100000)))))] [] ?_ ?_
  ·
    refine wr_case 15 rfl (fun hc2 => ?_) (fun hc2 => ?_)
    ·
      refine wr_no rfl rfl rfl rfl ?_
      refine wr_no rfl rfl rfl rfl ?_
      refine wr_no rfl rfl rfl rfl ?_
      refine wr_nou rfl rfl rfl ?_
      refine wr_nou rfl rfl rfl ?_
      refine wr_no rfl rfl rfl rfl ?_
      refine wr_y rfl (y_pickT rfl rfl) ?_
      refine wr_nil ?_
      exact ⟨(Sub.cons rfl (Sub.to rfl (mb_t (by first | omega | simp [*])) Sub.nil)), fun _ h => h⟩
    ·
      refine wr_yes rfl rfl ?_
      refine wr_y rfl (y_move rfl) ?_
      refine wr_yes rfl rfl ?_
      refine wr_y rfl (y_gt rfl rfl) ?_
      refine wr_yes rfl rfl ?_
      refine wr_y rfl (y_move rfl) ?_
      refine wr_mid 3 [(0, .int .i64 n), (15, .bool false), (21, .bool (decide ((300 < n) ∧ (n ≤ 100000))))] [] ?_ ?_
      ·
        refine wr_case 18 rfl (fun hc3 => ?_) (fun hc3 => ?_)
        ·
          refine wr_yes rfl rfl ?_
          refine wr_y rfl (y_move rfl) ?_
          refine wr_yes rfl rfl ?_
          refine wr_y rfl (y_le rfl rfl) ?_
          refine wr_yes rfl rfl ?_
          refine wr_y rfl (y_pickT rfl rfl) ?_
          refine wr_nil ?_
          exact ⟨(Sub.cons rfl (Sub.cons rfl (Sub.to rfl (mb (by first | omega | simp [*])) Sub.nil))), fun _ h => h⟩
        ·
          refine wr_no rfl rfl rfl rfl ?_
          refine wr_no rfl rfl rfl rfl ?_
          refine wr_yes rfl rfl ?_
          refine wr_y rfl (y_pickF rfl rfl) ?_
          refine wr_nil ?_
          exact ⟨(Sub.cons rfl (Sub.cons rfl (Sub.to rfl (mb_f (by first | omega | simp [*])) Sub.nil))), fun _ h => h⟩
      refine wr_y rfl (y_pickF rfl rfl) ?_
      refine wr_nil ?_
      exact ⟨(Sub.cons rfl (Sub.to rfl (mb (by first | omega | simp [*])) Sub.nil)), fun _ h => h⟩
  refine wr_nil ?_
  refine w_if rfl (fun hc4 => ?_) (fun hc4 => ?_)
  ·
    refine w_seq ?_
    refine w_reg ?_
    refine wr_y rfl (y_assign rfl) ?_
    refine wr_nil ?_
    refine w_ret ?_
    refine ⟨_, rfl, ?_⟩
    rfl
  ·
    refine w_skip ?_
    refine w_seq ?_
    refine w_reg ?_
    refine wr_y rfl (y_move rfl) ?_
    refine wr_a rfl (a_makeN Try.underlying31 zb5 rfl rfl (by omega) (by omega) (by omega)) ?_
    rintro _ _ ⟨g_2, rfl, rfl⟩
    refine wr_rows (R1 := [⟨5, 1, (some ⟨g_2, 0, none⟩), ((n).toNat), ((n).toNat), ints .u8 (List.replicate ((n).toNat) (0 : Int)), false⟩]) rfl ?_
    refine wr_as (v := .slice (some ⟨g_2, 0, none⟩) ((n).toNat) ((n).toNat)) rfl ?_
    refine wr_y rfl (y_assign rfl) ?_
    refine wr_nil ?_
    refine w_seq ?_
    refine w_reg ?_
    refine wr_y rfl (y_move rfl) ?_
    refine wr_a rfl (a_callF en23 rfl (Ct.quiet (fun w hw => bytes15long_ct ((rdr 0 rfl) w hw) (by rw [List.length_replicate]; omega)))) ?_
    rintro _ _ ⟨rfl, rfl⟩
    refine wr_y rfl (y_move rfl) ?_
    refine wr_y rfl (y_extract rfl rfl) ?_
    refine wr_y rfl (y_extract rfl rfl) ?_
    refine wr_y rfl (y_assign rfl) ?_
    refine wr_y rfl (y_assign rfl) ?_
    refine wr_nil ?_
    refine w_seq ?_
    refine w_seq ?_
    refine w_reg ?_
    refine wr_y rfl (y_move rfl) ?_
    refine wr_y rfl (Yl.t (y_gt rfl rfl) (by omega)) ?_
    refine wr_nil ?_
    refine w_true rfl ?_
    refine w_seq ?_
    refine w_reg ?_
    refine wr_y rfl (y_move rfl) ?_
    refine wr_a rfl (a_makeN Try.underlying22 zb3 rfl rfl (by omega) (by omega) (by omega)) ?_
    rintro _ _ ⟨g_4, rfl, rfl⟩
    refine wr_rows (R1 := [⟨3, 1, (some ⟨g_4, 0, none⟩), ((n).toNat), ((n).toNat), ints .i64 (List.replicate ((n).toNat) (0 : Int)), false⟩, ⟨5, 1, (some ⟨g_2, 0, none⟩), ((n).toNat), ((n).toNat), ints .u8 (List.replicate ((n).toNat) (0 : Int)), false⟩]) rfl ?_
    refine wr_as (v := .slice (some ⟨g_4, 0, none⟩) ((n).toNat) ((n).toNat)) rfl ?_
    refine wr_a rfl (a_callF en19 rfl (Ct.quiet (fun w hw => ints15long_ct ((rdr 0 rfl) w hw) (by rw [List.length_replicate]; omega)))) ?_
    rintro _ _ ⟨rfl, rfl⟩
    refine wr_y rfl (y_move rfl) ?_
    refine wr_y rfl (y_extract rfl rfl) ?_
    refine wr_y rfl (y_extract rfl rfl) ?_
    refine wr_y rfl (y_assign rfl) ?_
    refine wr_y rfl (y_assign rfl) ?_
    refine wr_nil ?_
    refine w_seq ?_
    refine w_reg ?_
    refine wr_y rfl (y_move rfl) ?_
    refine wr_y rfl (Yl.t (y_eq rfl rfl) (rfl)) ?_
    refine wr_y rfl (y_move rfl) ?_
    refine wr_yes rfl rfl ?_
    refine wr_y rfl (y_move rfl) ?_
    refine wr_yes rfl rfl ?_
    refine wr_y rfl (y_len Try.underlying22 rfl) ?_
    refine wr_yes rfl rfl ?_
    refine wr_y rfl (Yl.t (y_eq rfl rfl) (rfl)) ?_
    refine wr_y rfl (y_pickT rfl rfl) ?_
    refine wr_y rfl (y_move rfl) ?_
    refine wr_yes rfl rfl ?_
    refine wr_y rfl (y_move rfl) ?_
    refine wr_yes rfl rfl ?_
    refine wr_y rfl (Yl.t (y_eq rfl rfl) (rfl)) ?_
    refine wr_y rfl (y_pickT rfl rfl) ?_
    refine wr_y rfl (y_move rfl) ?_
    refine wr_yes rfl rfl ?_
    refine wr_a rfl (a_callF en22 rfl (Ct.quiet (fun w hw => known15_ct))) ?_
    rintro _ _ ⟨rfl, rfl⟩
    refine wr_y rfl (y_pickT rfl rfl) ?_
    refine wr_y rfl (y_assign rfl) ?_
    refine wr_nil ?_
    refine w_retR (R1 := []) (fun _ h => h.sel [] (by decide) rfl) ?_
    refine ⟨_, rfl, ?_⟩
    rfl

theorem doubleLong_ct {w : World} {n : Int} :
    Ct Try.prog 6 #[.int .i64 n] w.heap.size w [] (fun v R' => v = .bool true) := by
  by_cases hcase : n ≤ 100000
  · exact dLongA_ct  hcase
  · exact dLongB_ct  hcase
/-! whorl/whorllaw15.DoubleRanks -/
set_option maxRecDepth 100000 in
theorem dRanksA_ct {w : World} {A_s : Option Addr} {n_s c_s : Nat} {s : List Int} {k : Int} (h_s : Rd w A_s n_s c_s 1 (ints .i64 s)) (hA : 0 ≤ k) :
    Ct Try.prog 7 #[.slice A_s n_s c_s, .int .i64 k] w.heap.size w [] (fun v R' => v = .bool true) := by
  obtain rfl := h_s.lenI
  refine fn1 Try.func7 rfl rfl rfl ?_
  have m_s := h_s.max
  refine w_seq ?_
  refine w_reg ?_
  refine wr_y rfl (y_assign rfl) ?_
  refine wr_nil ?_
  refine w_seq ?_
  refine w_seq ?_
  refine w_reg ?_
  refine wr_y rfl (y_move rfl) ?_
  refine wr_y rfl (y_len Try.underlying22 rfl) ?_
  refine wr_y rfl (y_gt rfl rfl) ?_
  refine wr_nil ?_
  refine w_if rfl (fun hc1 => ?_) (fun hc1 => ?_)
  ·
    refine w_seq ?_
    refine w_reg ?_
    refine wr_y rfl (y_assign rfl) ?_
    refine wr_nil ?_
    refine w_ret ?_
    refine ⟨_, rfl, ?_⟩
    rfl
  ·
    refine w_skip ?_
    refine w_seq ?_
    refine w_reg ?_
    refine wr_y rfl (y_move rfl) ?_
    refine wr_y rfl (y_move rfl) ?_
    refine wr_a rfl (a_callF en25 rfl (Ct.fresh (fun w hw => ranks15_ct ((h_s.c _) w hw) hA (by omega)))) ?_
    rintro _ _ ⟨_, rfl, A_1, c_2, rfl, rfl⟩
    refine wr_y rfl (y_move rfl) ?_
    refine wr_y rfl (y_move rfl) ?_
    refine wr_a rfl (a_callF en26 rfl (Ct.fresh (fun w hw => ref15_ct ((h_s.c _) w hw) hA (by omega)))) ?_
    rintro _ _ ⟨_, rfl, A_4, c_5, rfl, rfl⟩
    refine wr_a rfl (a_callF en21 rfl (Ct.quiet (fun w hw => ints4_ct ((rdr 1 rfl) w hw) ((rdr 0 rfl) w hw) (by rw [rkL_len]; omega)))) ?_
    rintro _ _ ⟨rfl, rfl⟩
    refine wr_setT 14 rfl (rfl) ?_
    refine wr_y rfl (y_move rfl) ?_
    refine wr_yes rfl rfl ?_
    refine wr_a rfl (a_callF en22 rfl (Ct.quiet (fun w hw => known15_ct))) ?_
    rintro _ _ ⟨rfl, rfl⟩
    refine wr_y rfl (y_pickT rfl rfl) ?_
    refine wr_y rfl (y_assign rfl) ?_
    refine wr_nil ?_
    refine w_retR (R1 := []) (fun _ h => h.sel [] (by decide) rfl) ?_
    refine ⟨_, rfl, ?_⟩
    rfl

/-! whorl/whorllaw15.DoubleRanks -/
set_option maxRecDepth 100000 in
theorem dRanksB_ct {w : World} {A_s : Option Addr} {n_s c_s : Nat} {s : List Int} {k : Int} (h_s : Rd w A_s n_s c_s 1 (ints .i64 s)) (hB : ¬ 0 ≤ k) :
    Ct Try.prog 7 #[.slice A_s n_s c_s, .int .i64 k] w.heap.size w [] (fun v R' => v = .bool true) := by
  obtain rfl := h_s.lenI
  refine fn1 Try.func7 rfl rfl rfl ?_
  have m_s := h_s.max
  refine w_seq ?_
  refine w_reg ?_
  refine wr_y rfl (y_assign rfl) ?_
  refine wr_nil ?_
  refine w_seq ?_
  refine w_seq ?_
  refine w_reg ?_
  refine wr_y rfl (y_move rfl) ?_
  refine wr_y rfl (y_len Try.underlying22 rfl) ?_
  refine wr_y rfl (y_gt rfl rfl) ?_
  refine wr_nil ?_
  refine w_if rfl (fun hc1 => ?_) (fun hc1 => ?_)
  ·
    refine w_seq ?_
    refine w_reg ?_
    refine wr_y rfl (y_assign rfl) ?_
    refine wr_nil ?_
    refine w_ret ?_
    refine ⟨_, rfl, ?_⟩
    rfl
  ·
    refine w_skip ?_
    refine w_seq ?_
    refine w_reg ?_
    refine wr_y rfl (y_move rfl) ?_
    refine wr_y rfl (y_move rfl) ?_
    refine wr_a rfl (a_callF en25 rfl (Ct.quiet (fun w hw => ranks15neg_ct ((h_s.c _) w hw) (by omega)))) ?_
    rintro _ _ ⟨rfl, rfl⟩
    refine wr_y rfl (y_move rfl) ?_
    refine wr_y rfl (y_move rfl) ?_
    refine wr_a rfl (a_callF en26 rfl (Ct.quiet (fun w hw => ref15neg_ct ((h_s.c _) w hw) (by omega)))) ?_
    rintro _ _ ⟨rfl, rfl⟩
    refine wr_a rfl (a_callF en21 rfl (Ct.quiet (fun w hw => ints4_ct ((rd_nil _) w hw) ((rd_nil _) w hw) (by decide)))) ?_
    rintro _ _ ⟨rfl, rfl⟩
    refine wr_setT 14 rfl (rfl) ?_
    refine wr_y rfl (y_move rfl) ?_
    refine wr_yes rfl rfl ?_
    refine wr_a rfl (a_callF en22 rfl (Ct.quiet (fun w hw => known15_ct))) ?_
    rintro _ _ ⟨rfl, rfl⟩
    refine wr_y rfl (y_pickT rfl rfl) ?_
    refine wr_y rfl (y_assign rfl) ?_
    refine wr_nil ?_
    refine w_ret ?_
    refine ⟨_, rfl, ?_⟩
    rfl

theorem doubleRanks_ct {w : World} {A_s : Option Addr} {n_s c_s : Nat} {s : List Int} {k : Int} (h_s : Rd w A_s n_s c_s 1 (ints .i64 s)) :
    Ct Try.prog 7 #[.slice A_s n_s c_s, .int .i64 k] w.heap.size w [] (fun v R' => v = .bool true) := by
  by_cases hcase : 0 ≤ k
  · exact dRanksA_ct h_s hcase
  · exact dRanksB_ct h_s hcase
/-! whorl/whorllaw15.DoubleTwice -/
set_option maxRecDepth 100000 in
set_option maxHeartbeats 2000000 in
theorem doubleTwice_ct {w : World} {A_s : Option Addr} {n_s c_s : Nat} {s : List Int} {h : Int} (h_s : Rd w A_s n_s c_s 1 (ints .i64 s)) :
    Ct Try.prog 8 #[.slice A_s n_s c_s, .int .i64 h] w.heap.size w [] (fun v R' => v = .bool true) := by
  obtain rfl := h_s.lenI
  refine fn1 Try.func8 rfl rfl rfl ?_
  have m_s := h_s.max
  refine w_seq ?_
  refine w_reg ?_
  refine wr_y rfl (y_assign rfl) ?_
  refine wr_nil ?_
  refine w_seq ?_
  refine w_reg ?_
  refine wr_y rfl (y_move rfl) ?_
  refine wr_y rfl (y_len Try.underlying22 rfl) ?_
  refine wr_y rfl (y_assign rfl) ?_
  refine wr_nil ?_
  refine w_seq ?_
  refine w_seq ?_
  refine w_reg ?_
  refine wr_y rfl (y_move rfl) ?_
  refine wr_y rfl (y_gt rfl rfl) ?_
  refine wr_y rfl (y_move rfl) ?_
  refine wr_mid 3 [(0, .slice A_s s.length c_s), (1, .int .i64 h), (5, .int .i64 ((s.length : Nat) : Int)), (19, .bool (decide ((50 < ((s.length : Nat) : Int)) ∨ (h < 0))))] [] ?_ ?_
  ·
    refine wr_case 16 rfl (fun hc1 => ?_) (fun hc1 => ?_)
    ·
      refine wr_no rfl rfl rfl rfl ?_
      refine wr_no rfl rfl rfl rfl ?_
      refine wr_y rfl (y_pickT rfl rfl) ?_
      refine wr_nil ?_
      exact ⟨(Sub.cons rfl (Sub.cons rfl (Sub.cons rfl (Sub.to rfl (mb_t (by first | omega | simp [*])) Sub.nil)))), fun _ h => h⟩
    ·
      refine wr_yes rfl rfl ?_
      refine wr_y rfl (y_move rfl) ?_
      refine wr_yes rfl rfl ?_
      refine wr_y rfl (y_lt rfl rfl) ?_
      refine wr_y rfl (y_pickF rfl rfl) ?_
      refine wr_nil ?_
      exact ⟨(Sub.cons rfl (Sub.cons rfl (Sub.cons rfl (Sub.to rfl (mb (by first | omega | simp [*])) Sub.nil)))), fun _ h => h⟩
  refine wr_y rfl (y_move rfl) ?_
  refine wr_mid 3 [(0, .slice A_s s.length c_s), (1, .int .i64 h), (5, .int .i64 ((s.length : Nat) : Int)), (23, .bool (decide (((50 < ((s.length : Nat) : Int)) ∨ (h < 0)) ∨ (60 < h))))] [] ?_ ?_
  ·
    refine wr_case 20 rfl (fun hc2 => ?_) (fun hc2 => ?_)
    ·
      refine wr_no rfl rfl rfl rfl ?_
      refine wr_no rfl rfl rfl rfl ?_
      refine wr_y rfl (y_pickT rfl rfl) ?_
      refine wr_nil ?_
      exact ⟨(Sub.cons rfl (Sub.cons rfl (Sub.cons rfl (Sub.to rfl (mb_t (by first | omega | simp [*])) Sub.nil)))), fun _ h => h⟩
    ·
      refine wr_yes rfl rfl ?_
      refine wr_y rfl (y_move rfl) ?_
      refine wr_yes rfl rfl ?_
      refine wr_y rfl (y_gt rfl rfl) ?_
      refine wr_y rfl (y_pickF rfl rfl) ?_
      refine wr_nil ?_
      exact ⟨(Sub.cons rfl (Sub.cons rfl (Sub.cons rfl (Sub.to rfl (mb (by first | omega | simp [*])) Sub.nil)))), fun _ h => h⟩
  refine wr_nil ?_
  refine w_if rfl (fun hc3 => ?_) (fun hc3 => ?_)
  ·
    refine w_seq ?_
    refine w_reg ?_
    refine wr_y rfl (y_assign rfl) ?_
    refine wr_nil ?_
    refine w_ret ?_
    refine ⟨_, rfl, ?_⟩
    rfl
  ·
    refine w_skip ?_
    refine w_seq ?_
    refine w_reg ?_
    refine wr_y rfl (y_move rfl) ?_
    refine wr_y rfl (y_move rfl) ?_
    refine wr_a rfl (a_callF en25 rfl (Ct.fresh (fun w hw => ranks15_ct ((h_s.c _) w hw) (by omega) (by omega)))) ?_
    rintro _ _ ⟨_, rfl, A_1, c_2, rfl, rfl⟩
    refine wr_y rfl (y_move rfl) ?_
    refine wr_y rfl (y_move rfl) ?_
    refine wr_y rfl (y_mulI rfl rfl (by omega)) ?_
    refine wr_a rfl (a_callF en25 rfl (Ct.fresh (fun w hw => ranks15_ct ((h_s.c _) w hw) (by omega) (by omega)))) ?_
    rintro _ _ ⟨_, rfl, A_4, c_5, rfl, rfl⟩
    refine wr_y rfl (y_assign rfl) ?_
    refine wr_y rfl (y_assign rfl) ?_
    refine wr_nil ?_
    refine w_seq ?_
    refine w_seq ?_
    refine w_reg ?_
    refine wr_y rfl (y_move rfl) ?_
    refine wr_y rfl (y_len Try.underlying22 rfl) ?_
    refine wr_y rfl (y_move rfl) ?_
    refine wr_y rfl (Yl.f (y_ne rfl rfl) (by omega)) ?_
    refine wr_y rfl (y_move rfl) ?_
    refine wr_yes rfl rfl ?_
    refine wr_y rfl (y_move rfl) ?_
    refine wr_yes rfl rfl ?_
    refine wr_y rfl (y_len Try.underlying22 rfl) ?_
    refine wr_yes rfl rfl ?_
    refine wr_y rfl (y_move rfl) ?_
    refine wr_yes rfl rfl ?_
    refine wr_y rfl (Yl.f (y_ne rfl rfl) (by omega)) ?_
    refine wr_y rfl (y_pickF rfl rfl) ?_
    refine wr_nil ?_
    refine w_false rfl ?_
    refine w_skip ?_
    refine w_seq ?_
    refine w_seq ?_
    refine w_reg ?_
    refine wr_y rfl (y_assign rfl) ?_
    refine wr_nil ?_
    refine w_block ?_
    refine w_loop1 (fun (i : Int) => [(1, .int .i64 h), (5, .int .i64 ((s.length : Nat) : Int)), (6, .slice A_1 ((s).length) c_2), (7, .slice A_4 ((s).length) c_5), (8, .int .i64 i)]) (fun (i : Int) => [⟨3, 1, A_4, ((s).length), c_5, ints .i64 (rkL s ((2 * h)).toNat), false⟩, ⟨3, 1, A_1, ((s).length), c_2, ints .i64 (rkL s (h).toNat), false⟩]) (fun (i : Int) => (0 ≤ i) ∧ (i ≤ s.length)) (fun (i : Int) => (s.length - i).toNat) ?_ ?_
    ·
      exact ⟨0, ⟨(by omega), (by omega)⟩, (Sub.cons rfl (Sub.cons rfl (Sub.cons rfl (Sub.cons rfl (Sub.cons rfl Sub.nil))))), fun _ h => h⟩
    intro i ⟨hi0, hi1⟩
    refine w_seq ?_
    refine w_seq ?_
    refine w_reg ?_
    refine wr_y rfl (y_move rfl) ?_
    refine wr_y rfl (y_move rfl) ?_
    refine wr_y rfl (y_lt rfl rfl) ?_
    refine wr_nil ?_
    refine w_if rfl (fun hc4 => ?_) (fun hc4 => ?_)
    ·
      refine w_skip ?_
      refine w_seq ?_
      refine w_block ?_
      refine w_seq ?_
      refine w_reg ?_
      refine wr_y rfl (y_assign rfl) ?_
      refine wr_nil ?_
      refine w_block ?_
      refine w_loop1 (fun (k : Int) => [(1, .int .i64 h), (5, .int .i64 ((s.length : Nat) : Int)), (6, .slice A_1 ((s).length) c_2), (7, .slice A_4 ((s).length) c_5), (8, .int .i64 i), (9, .int .i64 k)]) (fun (k : Int) => [⟨3, 1, A_4, ((s).length), c_5, ints .i64 (rkL s ((2 * h)).toNat), false⟩, ⟨3, 1, A_1, ((s).length), c_2, ints .i64 (rkL s (h).toNat), false⟩]) (fun (k : Int) => (0 ≤ k) ∧ (k ≤ s.length)) (fun (k : Int) => (s.length - k).toNat) ?_ ?_
      ·
        exact ⟨0, ⟨(by omega), (by omega)⟩, (Sub.cons rfl (Sub.cons rfl (Sub.cons rfl (Sub.cons rfl (Sub.cons rfl (Sub.cons rfl Sub.nil)))))), fun _ h => h⟩
      intro k ⟨hk0, hk1⟩
      refine w_seq ?_
      refine w_seq ?_
      refine w_reg ?_
      refine wr_y rfl (y_move rfl) ?_
      refine wr_y rfl (y_move rfl) ?_
      refine wr_y rfl (y_lt rfl rfl) ?_
      refine wr_nil ?_
      refine w_if rfl (fun hc5 => ?_) (fun hc5 => ?_)
      ·
        refine w_skip ?_
        refine w_seq ?_
        refine w_block ?_
        refine w_seq ?_
        refine w_reg ?_
        refine wr_y rfl (y_assign rfl) ?_
        refine wr_y rfl (y_assign rfl) ?_
        refine wr_nil ?_
        refine w_seq ?_
        refine w_seq ?_
        refine w_reg ?_
        refine wr_y rfl (y_move rfl) ?_
        refine wr_y rfl (y_move rfl) ?_
        refine wr_y rfl (y_addI rfl rfl (by omega)) ?_
        refine wr_y rfl (y_move rfl) ?_
        refine wr_y rfl (y_lt rfl rfl) ?_
        refine wr_nil ?_
        refine w_if rfl (fun hc6 => ?_) (fun hc6 => ?_)
        ·
          refine w_reg ?_
          refine wr_y rfl (y_move rfl) ?_
          refine wr_y rfl (y_move rfl) ?_
          refine wr_y rfl (y_move rfl) ?_
          refine wr_y rfl (y_addI rfl rfl (by omega)) ?_
          refine wr_y rfl (y_index1 Try.underlying22 sz3 rfl rfl (rdr 1 rfl) (by omega) (by omega)) ?_
          refine wr_y rfl (y_ldI Try.underlying3 rfl rfl (rdr 1 rfl) (by omega) (by omega)) ?_
          refine wr_y rfl (y_assign rfl) ?_
          refine wr_nil ?_
          refine w_seq ?_
          refine w_seq ?_
          refine w_reg ?_
          refine wr_y rfl (y_move rfl) ?_
          refine wr_y rfl (y_move rfl) ?_
          refine wr_y rfl (y_addI rfl rfl (by omega)) ?_
          refine wr_y rfl (y_move rfl) ?_
          refine wr_y rfl (y_lt rfl rfl) ?_
          refine wr_nil ?_
          refine w_if rfl (fun hc7 => ?_) (fun hc7 => ?_)
          ·
            refine w_reg ?_
            refine wr_y rfl (y_move rfl) ?_
            refine wr_y rfl (y_move rfl) ?_
            refine wr_y rfl (y_move rfl) ?_
            refine wr_y rfl (y_addI rfl rfl (by omega)) ?_
            refine wr_y rfl (y_index1 Try.underlying22 sz3 rfl rfl (rdr 1 rfl) (by omega) (by omega)) ?_
            refine wr_y rfl (y_ldI Try.underlying3 rfl rfl (rdr 1 rfl) (by omega) (by omega)) ?_
            refine wr_y rfl (y_assign rfl) ?_
            refine wr_nil ?_
            refine w_join0 [(1, .int .i64 h), (5, .int .i64 ((s.length : Nat) : Int)), (6, .slice A_1 ((s).length) c_2), (7, .slice A_4 ((s).length) c_5), (8, .int .i64 i), (9, .int .i64 k), (107, .bool false)] [⟨3, 1, A_4, ((s).length), c_5, ints .i64 (rkL s ((2 * h)).toNat), false⟩, ⟨3, 1, A_1, ((s).length), c_2, ints .i64 (rkL s (h).toNat), false⟩] ?_ ?_
            ·
              refine w_regd mixed ?_
              refine wd_y 0 rfl (by kernel_rfl) rfl (y_move rfl) ?_
              refine wd_y 1 rfl (by kernel_rfl) rfl (y_move rfl) ?_
              refine wd_y 2 rfl (by kernel_rfl) rfl (y_index1 Try.underlying22 sz3 rfl rfl (rdr 0 rfl) (by omega) (by omega)) ?_
              refine wd_y 3 rfl (by kernel_rfl) rfl (y_ldI Try.underlying3 rfl rfl (rdr 0 rfl) (by omega) (by omega)) ?_
              refine wd_y 4 rfl (by kernel_rfl) rfl (y_move rfl) ?_
              refine wd_y 5 rfl (by kernel_rfl) rfl (y_move rfl) ?_
              refine wd_y 6 rfl (by kernel_rfl) rfl (y_index1 Try.underlying22 sz3 rfl rfl (rdr 0 rfl) (by omega) (by omega)) ?_
              refine wd_y 7 rfl (by kernel_rfl) rfl (y_ldI Try.underlying3 rfl rfl (rdr 0 rfl) (by omega) (by omega)) ?_
              refine wd_y 8 rfl (by kernel_rfl) rfl (y_lt rfl rfl) ?_
              refine wd_y 9 rfl (by kernel_rfl) rfl (y_move rfl) ?_
              refine wd_y 10 rfl (by kernel_rfl) rfl (y_move rfl) ?_
              refine wd_y 11 rfl (by kernel_rfl) rfl (y_index1 Try.underlying22 sz3 rfl rfl (rdr 1 rfl) (by omega) (by omega)) ?_
              refine wd_y 12 rfl (by kernel_rfl) rfl (y_ldI Try.underlying3 rfl rfl (rdr 1 rfl) (by omega) (by omega)) ?_
              refine wd_y 13 rfl (by kernel_rfl) rfl (y_move rfl) ?_
              refine wd_y 14 rfl (by kernel_rfl) rfl (y_move rfl) ?_
              refine wd_y 15 rfl (by kernel_rfl) rfl (y_index1 Try.underlying22 sz3 rfl rfl (rdr 1 rfl) (by omega) (by omega)) ?_
              refine wd_y 16 rfl (by kernel_rfl) rfl (y_ldI Try.underlying3 rfl rfl (rdr 1 rfl) (by omega) (by omega)) ?_
              refine wd_y 17 rfl (by kernel_rfl) rfl (y_lt rfl rfl) ?_
              refine wd_y 18 rfl (by kernel_rfl) rfl (y_move rfl) ?_
              refine wd_case 91 rfl (fun hc8 => ?_) (fun hc8 => ?_)
              ·
                refine wd_no 19 rfl (by kernel_rfl) rfl rfl rfl rfl ?_
                refine wd_no 20 rfl (by kernel_rfl) rfl rfl rfl rfl ?_
                refine wd_no 21 rfl (by kernel_rfl) rfl rfl rfl rfl ?_
                refine wd_no 22 rfl (by kernel_rfl) rfl rfl rfl rfl ?_
                refine wd_no 23 rfl (by kernel_rfl) rfl rfl rfl rfl ?_
                refine wd_no 24 rfl (by kernel_rfl) rfl rfl rfl rfl ?_
                refine wd_no 25 rfl (by kernel_rfl) rfl rfl rfl rfl ?_
                refine wd_no 26 rfl (by kernel_rfl) rfl rfl rfl rfl ?_
                refine wd_no 27 rfl (by kernel_rfl) rfl rfl rfl rfl ?_
                refine wd_no 28 rfl (by kernel_rfl) rfl rfl rfl rfl ?_
                refine wd_nou 29 rfl (by kernel_rfl) rfl rfl rfl ?_
                refine wd_nou 30 rfl (by kernel_rfl) rfl rfl rfl ?_
                refine wd_nou 31 rfl (by kernel_rfl) rfl rfl rfl ?_
                refine wd_no 32 rfl (by kernel_rfl) rfl rfl rfl rfl ?_
                refine wd_y 33 rfl (by kernel_rfl) rfl (y_pickT rfl rfl) ?_
                refine wd_y 34 rfl (by kernel_rfl) rfl (Yl.f (y_neB Try.underlying4 rfl rfl) (by
                  have hk := twice_key (s := s) (h := h) (i := i) (k := k) (by omega) hi0 (by omega) hk0 (by omega)
                  have ex := onF_split (rkL s h.toNat) i h
                  have ey := onF_split (rkL s h.toNat) k h
                  rw [rkL_len] at ex ey
                  simp only [ne_eq, decide_eq_true_eq, decide_eq_false_iff_not, decide_eq_decide, Decidable.not_not]
                  omega)) ?_
                refine wd_nil (by kernel_rfl) ?_
                exact ⟨(Sub.cons rfl (Sub.cons rfl (Sub.cons rfl (Sub.cons rfl (Sub.cons rfl (Sub.cons rfl (Sub.cons rfl Sub.nil))))))), fun _ h => h⟩
              ·
                refine wd_yg 19 rfl (by kernel_rfl) rfl rfl rfl (y_move rfl) ?_
                refine wd_yg 20 rfl (by kernel_rfl) rfl rfl rfl (y_move rfl) ?_
                refine wd_yg 21 rfl (by kernel_rfl) rfl rfl rfl (y_index1 Try.underlying22 sz3 rfl rfl (rdr 1 rfl) (by omega) (by omega)) ?_
                refine wd_yg 22 rfl (by kernel_rfl) rfl rfl rfl (y_ldI Try.underlying3 rfl rfl (rdr 1 rfl) (by omega) (by omega)) ?_
                refine wd_yg 23 rfl (by kernel_rfl) rfl rfl rfl (y_move rfl) ?_
                refine wd_yg 24 rfl (by kernel_rfl) rfl rfl rfl (y_move rfl) ?_
                refine wd_yg 25 rfl (by kernel_rfl) rfl rfl rfl (y_index1 Try.underlying22 sz3 rfl rfl (rdr 1 rfl) (by omega) (by omega)) ?_
                refine wd_yg 26 rfl (by kernel_rfl) rfl rfl rfl (y_ldI Try.underlying3 rfl rfl (rdr 1 rfl) (by omega) (by omega)) ?_
                refine wd_yg 27 rfl (by kernel_rfl) rfl rfl rfl (y_eq rfl rfl) ?_
                refine wd_yg 28 rfl (by kernel_rfl) rfl rfl rfl (y_move rfl) ?_
                refine wd_case 101 rfl (fun hc9 => ?_) (fun hc9 => ?_)
                ·
                  refine wd_yg 29 rfl (by kernel_rfl) rfl rfl rfl (y_move rfl) ?_
                  refine wd_yg 30 rfl (by kernel_rfl) rfl rfl rfl (y_move rfl) ?_
                  refine wd_yg 31 rfl (by kernel_rfl) rfl rfl rfl (y_lt rfl rfl) ?_
                  refine wd_yg 32 rfl (by kernel_rfl) rfl rfl rfl (y_pickT rfl rfl) ?_
                  refine wd_y 33 rfl (by kernel_rfl) rfl (y_pickF rfl rfl) ?_
                  refine wd_y 34 rfl (by kernel_rfl) rfl (Yl.f (y_neB Try.underlying4 rfl rfl) (by
                    have hk := twice_key (s := s) (h := h) (i := i) (k := k) (by omega) hi0 (by omega) hk0 (by omega)
                    have ex := onF_split (rkL s h.toNat) i h
                    have ey := onF_split (rkL s h.toNat) k h
                    rw [rkL_len] at ex ey
                    simp only [ne_eq, decide_eq_true_eq, decide_eq_false_iff_not, decide_eq_decide, Decidable.not_not]
                    omega)) ?_
                  refine wd_nil (by kernel_rfl) ?_
                  exact ⟨(Sub.cons rfl (Sub.cons rfl (Sub.cons rfl (Sub.cons rfl (Sub.cons rfl (Sub.cons rfl (Sub.cons rfl Sub.nil))))))), fun _ h => h⟩
                ·
                  refine wd_no 29 rfl (by kernel_rfl) rfl rfl rfl rfl ?_
                  refine wd_no 30 rfl (by kernel_rfl) rfl rfl rfl rfl ?_
                  refine wd_no 31 rfl (by kernel_rfl) rfl rfl rfl rfl ?_
                  refine wd_yg 32 rfl (by kernel_rfl) rfl rfl rfl (y_pickF rfl rfl) ?_
                  refine wd_y 33 rfl (by kernel_rfl) rfl (y_pickF rfl rfl) ?_
                  refine wd_y 34 rfl (by kernel_rfl) rfl (Yl.f (y_neB Try.underlying4 rfl rfl) (by
                    have hk := twice_key (s := s) (h := h) (i := i) (k := k) (by omega) hi0 (by omega) hk0 (by omega)
                    have ex := onF_split (rkL s h.toNat) i h
                    have ey := onF_split (rkL s h.toNat) k h
                    rw [rkL_len] at ex ey
                    simp only [ne_eq, decide_eq_true_eq, decide_eq_false_iff_not, decide_eq_decide, Decidable.not_not]
                    omega)) ?_
                  refine wd_nil (by kernel_rfl) ?_
                  exact ⟨(Sub.cons rfl (Sub.cons rfl (Sub.cons rfl (Sub.cons rfl (Sub.cons rfl (Sub.cons rfl (Sub.cons rfl Sub.nil))))))), fun _ h => h⟩
            refine w_false rfl ?_
            refine w_skip ?_
            refine w_reg ?_
            refine wr_y rfl (y_move rfl) ?_
            refine wr_y rfl (y_addI rfl rfl (by omega)) ?_
            refine wr_y rfl (y_assign rfl) ?_
            refine wr_nil ?_
            exact ⟨k + 1, ⟨(by omega), (by omega)⟩, (by omega), (Sub.cons rfl (Sub.cons rfl (Sub.cons rfl (Sub.cons rfl (Sub.cons rfl (Sub.cons rfl Sub.nil)))))), fun _ h => h⟩
          ·
            refine w_skip ?_
            refine w_join0 [(1, .int .i64 h), (5, .int .i64 ((s.length : Nat) : Int)), (6, .slice A_1 ((s).length) c_2), (7, .slice A_4 ((s).length) c_5), (8, .int .i64 i), (9, .int .i64 k), (107, .bool false)] [⟨3, 1, A_4, ((s).length), c_5, ints .i64 (rkL s ((2 * h)).toNat), false⟩, ⟨3, 1, A_1, ((s).length), c_2, ints .i64 (rkL s (h).toNat), false⟩] ?_ ?_
            ·
              refine w_regd mixed ?_
              refine wd_y 0 rfl (by kernel_rfl) rfl (y_move rfl) ?_
              refine wd_y 1 rfl (by kernel_rfl) rfl (y_move rfl) ?_
              refine wd_y 2 rfl (by kernel_rfl) rfl (y_index1 Try.underlying22 sz3 rfl rfl (rdr 0 rfl) (by omega) (by omega)) ?_
              refine wd_y 3 rfl (by kernel_rfl) rfl (y_ldI Try.underlying3 rfl rfl (rdr 0 rfl) (by omega) (by omega)) ?_
              refine wd_y 4 rfl (by kernel_rfl) rfl (y_move rfl) ?_
              refine wd_y 5 rfl (by kernel_rfl) rfl (y_move rfl) ?_
              refine wd_y 6 rfl (by kernel_rfl) rfl (y_index1 Try.underlying22 sz3 rfl rfl (rdr 0 rfl) (by omega) (by omega)) ?_
              refine wd_y 7 rfl (by kernel_rfl) rfl (y_ldI Try.underlying3 rfl rfl (rdr 0 rfl) (by omega) (by omega)) ?_
              refine wd_y 8 rfl (by kernel_rfl) rfl (y_lt rfl rfl) ?_
              refine wd_y 9 rfl (by kernel_rfl) rfl (y_move rfl) ?_
              refine wd_y 10 rfl (by kernel_rfl) rfl (y_move rfl) ?_
              refine wd_y 11 rfl (by kernel_rfl) rfl (y_index1 Try.underlying22 sz3 rfl rfl (rdr 1 rfl) (by omega) (by omega)) ?_
              refine wd_y 12 rfl (by kernel_rfl) rfl (y_ldI Try.underlying3 rfl rfl (rdr 1 rfl) (by omega) (by omega)) ?_
              refine wd_y 13 rfl (by kernel_rfl) rfl (y_move rfl) ?_
              refine wd_y 14 rfl (by kernel_rfl) rfl (y_move rfl) ?_
              refine wd_y 15 rfl (by kernel_rfl) rfl (y_index1 Try.underlying22 sz3 rfl rfl (rdr 1 rfl) (by omega) (by omega)) ?_
              refine wd_y 16 rfl (by kernel_rfl) rfl (y_ldI Try.underlying3 rfl rfl (rdr 1 rfl) (by omega) (by omega)) ?_
              refine wd_y 17 rfl (by kernel_rfl) rfl (y_lt rfl rfl) ?_
              refine wd_y 18 rfl (by kernel_rfl) rfl (y_move rfl) ?_
              refine wd_case 91 rfl (fun hc10 => ?_) (fun hc10 => ?_)
              ·
                refine wd_no 19 rfl (by kernel_rfl) rfl rfl rfl rfl ?_
                refine wd_no 20 rfl (by kernel_rfl) rfl rfl rfl rfl ?_
                refine wd_no 21 rfl (by kernel_rfl) rfl rfl rfl rfl ?_
                refine wd_no 22 rfl (by kernel_rfl) rfl rfl rfl rfl ?_
                refine wd_no 23 rfl (by kernel_rfl) rfl rfl rfl rfl ?_
                refine wd_no 24 rfl (by kernel_rfl) rfl rfl rfl rfl ?_
                refine wd_no 25 rfl (by kernel_rfl) rfl rfl rfl rfl ?_
                refine wd_no 26 rfl (by kernel_rfl) rfl rfl rfl rfl ?_
                refine wd_no 27 rfl (by kernel_rfl) rfl rfl rfl rfl ?_
                refine wd_no 28 rfl (by kernel_rfl) rfl rfl rfl rfl ?_
                refine wd_nou 29 rfl (by kernel_rfl) rfl rfl rfl ?_
                refine wd_nou 30 rfl (by kernel_rfl) rfl rfl rfl ?_
                refine wd_nou 31 rfl (by kernel_rfl) rfl rfl rfl ?_
                refine wd_no 32 rfl (by kernel_rfl) rfl rfl rfl rfl ?_
                refine wd_y 33 rfl (by kernel_rfl) rfl (y_pickT rfl rfl) ?_
                refine wd_y 34 rfl (by kernel_rfl) rfl (Yl.f (y_neB Try.underlying4 rfl rfl) (by
                  have hk := twice_key (s := s) (h := h) (i := i) (k := k) (by omega) hi0 (by omega) hk0 (by omega)
                  have ex := onF_split (rkL s h.toNat) i h
                  have ey := onF_split (rkL s h.toNat) k h
                  rw [rkL_len] at ex ey
                  simp only [ne_eq, decide_eq_true_eq, decide_eq_false_iff_not, decide_eq_decide, Decidable.not_not]
                  omega)) ?_
                refine wd_nil (by kernel_rfl) ?_
                exact ⟨(Sub.cons rfl (Sub.cons rfl (Sub.cons rfl (Sub.cons rfl (Sub.cons rfl (Sub.cons rfl (Sub.cons rfl Sub.nil))))))), fun _ h => h⟩
              ·
                refine wd_yg 19 rfl (by kernel_rfl) rfl rfl rfl (y_move rfl) ?_
                refine wd_yg 20 rfl (by kernel_rfl) rfl rfl rfl (y_move rfl) ?_
                refine wd_yg 21 rfl (by kernel_rfl) rfl rfl rfl (y_index1 Try.underlying22 sz3 rfl rfl (rdr 1 rfl) (by omega) (by omega)) ?_
                refine wd_yg 22 rfl (by kernel_rfl) rfl rfl rfl (y_ldI Try.underlying3 rfl rfl (rdr 1 rfl) (by omega) (by omega)) ?_
                refine wd_yg 23 rfl (by kernel_rfl) rfl rfl rfl (y_move rfl) ?_
                refine wd_yg 24 rfl (by kernel_rfl) rfl rfl rfl (y_move rfl) ?_
                refine wd_yg 25 rfl (by kernel_rfl) rfl rfl rfl (y_index1 Try.underlying22 sz3 rfl rfl (rdr 1 rfl) (by omega) (by omega)) ?_
                refine wd_yg 26 rfl (by kernel_rfl) rfl rfl rfl (y_ldI Try.underlying3 rfl rfl (rdr 1 rfl) (by omega) (by omega)) ?_
                refine wd_yg 27 rfl (by kernel_rfl) rfl rfl rfl (y_eq rfl rfl) ?_
                refine wd_yg 28 rfl (by kernel_rfl) rfl rfl rfl (y_move rfl) ?_
                refine wd_case 101 rfl (fun hc11 => ?_) (fun hc11 => ?_)
                ·
                  refine wd_yg 29 rfl (by kernel_rfl) rfl rfl rfl (y_move rfl) ?_
                  refine wd_yg 30 rfl (by kernel_rfl) rfl rfl rfl (y_move rfl) ?_
                  refine wd_yg 31 rfl (by kernel_rfl) rfl rfl rfl (y_lt rfl rfl) ?_
                  refine wd_yg 32 rfl (by kernel_rfl) rfl rfl rfl (y_pickT rfl rfl) ?_
                  refine wd_y 33 rfl (by kernel_rfl) rfl (y_pickF rfl rfl) ?_
                  refine wd_y 34 rfl (by kernel_rfl) rfl (Yl.f (y_neB Try.underlying4 rfl rfl) (by
                    have hk := twice_key (s := s) (h := h) (i := i) (k := k) (by omega) hi0 (by omega) hk0 (by omega)
                    have ex := onF_split (rkL s h.toNat) i h
                    have ey := onF_split (rkL s h.toNat) k h
                    rw [rkL_len] at ex ey
                    simp only [ne_eq, decide_eq_true_eq, decide_eq_false_iff_not, decide_eq_decide, Decidable.not_not]
                    omega)) ?_
                  refine wd_nil (by kernel_rfl) ?_
                  exact ⟨(Sub.cons rfl (Sub.cons rfl (Sub.cons rfl (Sub.cons rfl (Sub.cons rfl (Sub.cons rfl (Sub.cons rfl Sub.nil))))))), fun _ h => h⟩
                ·
                  refine wd_no 29 rfl (by kernel_rfl) rfl rfl rfl rfl ?_
                  refine wd_no 30 rfl (by kernel_rfl) rfl rfl rfl rfl ?_
                  refine wd_no 31 rfl (by kernel_rfl) rfl rfl rfl rfl ?_
                  refine wd_yg 32 rfl (by kernel_rfl) rfl rfl rfl (y_pickF rfl rfl) ?_
                  refine wd_y 33 rfl (by kernel_rfl) rfl (y_pickF rfl rfl) ?_
                  refine wd_y 34 rfl (by kernel_rfl) rfl (Yl.f (y_neB Try.underlying4 rfl rfl) (by
                    have hk := twice_key (s := s) (h := h) (i := i) (k := k) (by omega) hi0 (by omega) hk0 (by omega)
                    have ex := onF_split (rkL s h.toNat) i h
                    have ey := onF_split (rkL s h.toNat) k h
                    rw [rkL_len] at ex ey
                    simp only [ne_eq, decide_eq_true_eq, decide_eq_false_iff_not, decide_eq_decide, Decidable.not_not]
                    omega)) ?_
                  refine wd_nil (by kernel_rfl) ?_
                  exact ⟨(Sub.cons rfl (Sub.cons rfl (Sub.cons rfl (Sub.cons rfl (Sub.cons rfl (Sub.cons rfl (Sub.cons rfl Sub.nil))))))), fun _ h => h⟩
            refine w_false rfl ?_
            refine w_skip ?_
            refine w_reg ?_
            refine wr_y rfl (y_move rfl) ?_
            refine wr_y rfl (y_addI rfl rfl (by omega)) ?_
            refine wr_y rfl (y_assign rfl) ?_
            refine wr_nil ?_
            exact ⟨k + 1, ⟨(by omega), (by omega)⟩, (by omega), (Sub.cons rfl (Sub.cons rfl (Sub.cons rfl (Sub.cons rfl (Sub.cons rfl (Sub.cons rfl Sub.nil)))))), fun _ h => h⟩
        ·
          refine w_skip ?_
          refine w_seq ?_
          refine w_seq ?_
          refine w_reg ?_
          refine wr_y rfl (y_move rfl) ?_
          refine wr_y rfl (y_move rfl) ?_
          refine wr_y rfl (y_addI rfl rfl (by omega)) ?_
          refine wr_y rfl (y_move rfl) ?_
          refine wr_y rfl (y_lt rfl rfl) ?_
          refine wr_nil ?_
          refine w_if rfl (fun hc12 => ?_) (fun hc12 => ?_)
          ·
            refine w_reg ?_
            refine wr_y rfl (y_move rfl) ?_
            refine wr_y rfl (y_move rfl) ?_
            refine wr_y rfl (y_move rfl) ?_
            refine wr_y rfl (y_addI rfl rfl (by omega)) ?_
            refine wr_y rfl (y_index1 Try.underlying22 sz3 rfl rfl (rdr 1 rfl) (by omega) (by omega)) ?_
            refine wr_y rfl (y_ldI Try.underlying3 rfl rfl (rdr 1 rfl) (by omega) (by omega)) ?_
            refine wr_y rfl (y_assign rfl) ?_
            refine wr_nil ?_
            refine w_join0 [(1, .int .i64 h), (5, .int .i64 ((s.length : Nat) : Int)), (6, .slice A_1 ((s).length) c_2), (7, .slice A_4 ((s).length) c_5), (8, .int .i64 i), (9, .int .i64 k), (107, .bool false)] [⟨3, 1, A_4, ((s).length), c_5, ints .i64 (rkL s ((2 * h)).toNat), false⟩, ⟨3, 1, A_1, ((s).length), c_2, ints .i64 (rkL s (h).toNat), false⟩] ?_ ?_
            ·
              refine w_regd mixed ?_
              refine wd_y 0 rfl (by kernel_rfl) rfl (y_move rfl) ?_
              refine wd_y 1 rfl (by kernel_rfl) rfl (y_move rfl) ?_
              refine wd_y 2 rfl (by kernel_rfl) rfl (y_index1 Try.underlying22 sz3 rfl rfl (rdr 0 rfl) (by omega) (by omega)) ?_
              refine wd_y 3 rfl (by kernel_rfl) rfl (y_ldI Try.underlying3 rfl rfl (rdr 0 rfl) (by omega) (by omega)) ?_
              refine wd_y 4 rfl (by kernel_rfl) rfl (y_move rfl) ?_
              refine wd_y 5 rfl (by kernel_rfl) rfl (y_move rfl) ?_
              refine wd_y 6 rfl (by kernel_rfl) rfl (y_index1 Try.underlying22 sz3 rfl rfl (rdr 0 rfl) (by omega) (by omega)) ?_
              refine wd_y 7 rfl (by kernel_rfl) rfl (y_ldI Try.underlying3 rfl rfl (rdr 0 rfl) (by omega) (by omega)) ?_
              refine wd_y 8 rfl (by kernel_rfl) rfl (y_lt rfl rfl) ?_
              refine wd_y 9 rfl (by kernel_rfl) rfl (y_move rfl) ?_
              refine wd_y 10 rfl (by kernel_rfl) rfl (y_move rfl) ?_
              refine wd_y 11 rfl (by kernel_rfl) rfl (y_index1 Try.underlying22 sz3 rfl rfl (rdr 1 rfl) (by omega) (by omega)) ?_
              refine wd_y 12 rfl (by kernel_rfl) rfl (y_ldI Try.underlying3 rfl rfl (rdr 1 rfl) (by omega) (by omega)) ?_
              refine wd_y 13 rfl (by kernel_rfl) rfl (y_move rfl) ?_
              refine wd_y 14 rfl (by kernel_rfl) rfl (y_move rfl) ?_
              refine wd_y 15 rfl (by kernel_rfl) rfl (y_index1 Try.underlying22 sz3 rfl rfl (rdr 1 rfl) (by omega) (by omega)) ?_
              refine wd_y 16 rfl (by kernel_rfl) rfl (y_ldI Try.underlying3 rfl rfl (rdr 1 rfl) (by omega) (by omega)) ?_
              refine wd_y 17 rfl (by kernel_rfl) rfl (y_lt rfl rfl) ?_
              refine wd_y 18 rfl (by kernel_rfl) rfl (y_move rfl) ?_
              refine wd_case 91 rfl (fun hc13 => ?_) (fun hc13 => ?_)
              ·
                refine wd_no 19 rfl (by kernel_rfl) rfl rfl rfl rfl ?_
                refine wd_no 20 rfl (by kernel_rfl) rfl rfl rfl rfl ?_
                refine wd_no 21 rfl (by kernel_rfl) rfl rfl rfl rfl ?_
                refine wd_no 22 rfl (by kernel_rfl) rfl rfl rfl rfl ?_
                refine wd_no 23 rfl (by kernel_rfl) rfl rfl rfl rfl ?_
                refine wd_no 24 rfl (by kernel_rfl) rfl rfl rfl rfl ?_
                refine wd_no 25 rfl (by kernel_rfl) rfl rfl rfl rfl ?_
                refine wd_no 26 rfl (by kernel_rfl) rfl rfl rfl rfl ?_
                refine wd_no 27 rfl (by kernel_rfl) rfl rfl rfl rfl ?_
                refine wd_no 28 rfl (by kernel_rfl) rfl rfl rfl rfl ?_
                refine wd_nou 29 rfl (by kernel_rfl) rfl rfl rfl ?_
                refine wd_nou 30 rfl (by kernel_rfl) rfl rfl rfl ?_
                refine wd_nou 31 rfl (by kernel_rfl) rfl rfl rfl ?_
                refine wd_no 32 rfl (by kernel_rfl) rfl rfl rfl rfl ?_
                refine wd_y 33 rfl (by kernel_rfl) rfl (y_pickT rfl rfl) ?_
                refine wd_y 34 rfl (by kernel_rfl) rfl (Yl.f (y_neB Try.underlying4 rfl rfl) (by
                  have hk := twice_key (s := s) (h := h) (i := i) (k := k) (by omega) hi0 (by omega) hk0 (by omega)
                  have ex := onF_split (rkL s h.toNat) i h
                  have ey := onF_split (rkL s h.toNat) k h
                  rw [rkL_len] at ex ey
                  simp only [ne_eq, decide_eq_true_eq, decide_eq_false_iff_not, decide_eq_decide, Decidable.not_not]
                  omega)) ?_
                refine wd_nil (by kernel_rfl) ?_
                exact ⟨(Sub.cons rfl (Sub.cons rfl (Sub.cons rfl (Sub.cons rfl (Sub.cons rfl (Sub.cons rfl (Sub.cons rfl Sub.nil))))))), fun _ h => h⟩
              ·
                refine wd_yg 19 rfl (by kernel_rfl) rfl rfl rfl (y_move rfl) ?_
                refine wd_yg 20 rfl (by kernel_rfl) rfl rfl rfl (y_move rfl) ?_
                refine wd_yg 21 rfl (by kernel_rfl) rfl rfl rfl (y_index1 Try.underlying22 sz3 rfl rfl (rdr 1 rfl) (by omega) (by omega)) ?_
                refine wd_yg 22 rfl (by kernel_rfl) rfl rfl rfl (y_ldI Try.underlying3 rfl rfl (rdr 1 rfl) (by omega) (by omega)) ?_
                refine wd_yg 23 rfl (by kernel_rfl) rfl rfl rfl (y_move rfl) ?_
                refine wd_yg 24 rfl (by kernel_rfl) rfl rfl rfl (y_move rfl) ?_
                refine wd_yg 25 rfl (by kernel_rfl) rfl rfl rfl (y_index1 Try.underlying22 sz3 rfl rfl (rdr 1 rfl) (by omega) (by omega)) ?_
                refine wd_yg 26 rfl (by kernel_rfl) rfl rfl rfl (y_ldI Try.underlying3 rfl rfl (rdr 1 rfl) (by omega) (by omega)) ?_
                refine wd_yg 27 rfl (by kernel_rfl) rfl rfl rfl (y_eq rfl rfl) ?_
                refine wd_yg 28 rfl (by kernel_rfl) rfl rfl rfl (y_move rfl) ?_
                refine wd_case 101 rfl (fun hc14 => ?_) (fun hc14 => ?_)
                ·
                  refine wd_yg 29 rfl (by kernel_rfl) rfl rfl rfl (y_move rfl) ?_
                  refine wd_yg 30 rfl (by kernel_rfl) rfl rfl rfl (y_move rfl) ?_
                  refine wd_yg 31 rfl (by kernel_rfl) rfl rfl rfl (y_lt rfl rfl) ?_
                  refine wd_yg 32 rfl (by kernel_rfl) rfl rfl rfl (y_pickT rfl rfl) ?_
                  refine wd_y 33 rfl (by kernel_rfl) rfl (y_pickF rfl rfl) ?_
                  refine wd_y 34 rfl (by kernel_rfl) rfl (Yl.f (y_neB Try.underlying4 rfl rfl) (by
                    have hk := twice_key (s := s) (h := h) (i := i) (k := k) (by omega) hi0 (by omega) hk0 (by omega)
                    have ex := onF_split (rkL s h.toNat) i h
                    have ey := onF_split (rkL s h.toNat) k h
                    rw [rkL_len] at ex ey
                    simp only [ne_eq, decide_eq_true_eq, decide_eq_false_iff_not, decide_eq_decide, Decidable.not_not]
                    omega)) ?_
                  refine wd_nil (by kernel_rfl) ?_
                  exact ⟨(Sub.cons rfl (Sub.cons rfl (Sub.cons rfl (Sub.cons rfl (Sub.cons rfl (Sub.cons rfl (Sub.cons rfl Sub.nil))))))), fun _ h => h⟩
                ·
                  refine wd_no 29 rfl (by kernel_rfl) rfl rfl rfl rfl ?_
                  refine wd_no 30 rfl (by kernel_rfl) rfl rfl rfl rfl ?_
                  refine wd_no 31 rfl (by kernel_rfl) rfl rfl rfl rfl ?_
                  refine wd_yg 32 rfl (by kernel_rfl) rfl rfl rfl (y_pickF rfl rfl) ?_
                  refine wd_y 33 rfl (by kernel_rfl) rfl (y_pickF rfl rfl) ?_
                  refine wd_y 34 rfl (by kernel_rfl) rfl (Yl.f (y_neB Try.underlying4 rfl rfl) (by
                    have hk := twice_key (s := s) (h := h) (i := i) (k := k) (by omega) hi0 (by omega) hk0 (by omega)
                    have ex := onF_split (rkL s h.toNat) i h
                    have ey := onF_split (rkL s h.toNat) k h
                    rw [rkL_len] at ex ey
                    simp only [ne_eq, decide_eq_true_eq, decide_eq_false_iff_not, decide_eq_decide, Decidable.not_not]
                    omega)) ?_
                  refine wd_nil (by kernel_rfl) ?_
                  exact ⟨(Sub.cons rfl (Sub.cons rfl (Sub.cons rfl (Sub.cons rfl (Sub.cons rfl (Sub.cons rfl (Sub.cons rfl Sub.nil))))))), fun _ h => h⟩
            refine w_false rfl ?_
            refine w_skip ?_
            refine w_reg ?_
            refine wr_y rfl (y_move rfl) ?_
            refine wr_y rfl (y_addI rfl rfl (by omega)) ?_
            refine wr_y rfl (y_assign rfl) ?_
            refine wr_nil ?_
            exact ⟨k + 1, ⟨(by omega), (by omega)⟩, (by omega), (Sub.cons rfl (Sub.cons rfl (Sub.cons rfl (Sub.cons rfl (Sub.cons rfl (Sub.cons rfl Sub.nil)))))), fun _ h => h⟩
          ·
            refine w_skip ?_
            refine w_join0 [(1, .int .i64 h), (5, .int .i64 ((s.length : Nat) : Int)), (6, .slice A_1 ((s).length) c_2), (7, .slice A_4 ((s).length) c_5), (8, .int .i64 i), (9, .int .i64 k), (107, .bool false)] [⟨3, 1, A_4, ((s).length), c_5, ints .i64 (rkL s ((2 * h)).toNat), false⟩, ⟨3, 1, A_1, ((s).length), c_2, ints .i64 (rkL s (h).toNat), false⟩] ?_ ?_
            ·
              refine w_regd mixed ?_
              refine wd_y 0 rfl (by kernel_rfl) rfl (y_move rfl) ?_
              refine wd_y 1 rfl (by kernel_rfl) rfl (y_move rfl) ?_
              refine wd_y 2 rfl (by kernel_rfl) rfl (y_index1 Try.underlying22 sz3 rfl rfl (rdr 0 rfl) (by omega) (by omega)) ?_
              refine wd_y 3 rfl (by kernel_rfl) rfl (y_ldI Try.underlying3 rfl rfl (rdr 0 rfl) (by omega) (by omega)) ?_
              refine wd_y 4 rfl (by kernel_rfl) rfl (y_move rfl) ?_
              refine wd_y 5 rfl (by kernel_rfl) rfl (y_move rfl) ?_
              refine wd_y 6 rfl (by kernel_rfl) rfl (y_index1 Try.underlying22 sz3 rfl rfl (rdr 0 rfl) (by omega) (by omega)) ?_
              refine wd_y 7 rfl (by kernel_rfl) rfl (y_ldI Try.underlying3 rfl rfl (rdr 0 rfl) (by omega) (by omega)) ?_
              refine wd_y 8 rfl (by kernel_rfl) rfl (y_lt rfl rfl) ?_
              refine wd_y 9 rfl (by kernel_rfl) rfl (y_move rfl) ?_
              refine wd_y 10 rfl (by kernel_rfl) rfl (y_move rfl) ?_
              refine wd_y 11 rfl (by kernel_rfl) rfl (y_index1 Try.underlying22 sz3 rfl rfl (rdr 1 rfl) (by omega) (by omega)) ?_
              refine wd_y 12 rfl (by kernel_rfl) rfl (y_ldI Try.underlying3 rfl rfl (rdr 1 rfl) (by omega) (by omega)) ?_
              refine wd_y 13 rfl (by kernel_rfl) rfl (y_move rfl) ?_
              refine wd_y 14 rfl (by kernel_rfl) rfl (y_move rfl) ?_
              refine wd_y 15 rfl (by kernel_rfl) rfl (y_index1 Try.underlying22 sz3 rfl rfl (rdr 1 rfl) (by omega) (by omega)) ?_
              refine wd_y 16 rfl (by kernel_rfl) rfl (y_ldI Try.underlying3 rfl rfl (rdr 1 rfl) (by omega) (by omega)) ?_
              refine wd_y 17 rfl (by kernel_rfl) rfl (y_lt rfl rfl) ?_
              refine wd_y 18 rfl (by kernel_rfl) rfl (y_move rfl) ?_
              refine wd_case 91 rfl (fun hc15 => ?_) (fun hc15 => ?_)
              ·
                refine wd_no 19 rfl (by kernel_rfl) rfl rfl rfl rfl ?_
                refine wd_no 20 rfl (by kernel_rfl) rfl rfl rfl rfl ?_
                refine wd_no 21 rfl (by kernel_rfl) rfl rfl rfl rfl ?_
                refine wd_no 22 rfl (by kernel_rfl) rfl rfl rfl rfl ?_
                refine wd_no 23 rfl (by kernel_rfl) rfl rfl rfl rfl ?_
                refine wd_no 24 rfl (by kernel_rfl) rfl rfl rfl rfl ?_
                refine wd_no 25 rfl (by kernel_rfl) rfl rfl rfl rfl ?_
                refine wd_no 26 rfl (by kernel_rfl) rfl rfl rfl rfl ?_
                refine wd_no 27 rfl (by kernel_rfl) rfl rfl rfl rfl ?_
                refine wd_no 28 rfl (by kernel_rfl) rfl rfl rfl rfl ?_
                refine wd_nou 29 rfl (by kernel_rfl) rfl rfl rfl ?_
                refine wd_nou 30 rfl (by kernel_rfl) rfl rfl rfl ?_
                refine wd_nou 31 rfl (by kernel_rfl) rfl rfl rfl ?_
                refine wd_no 32 rfl (by kernel_rfl) rfl rfl rfl rfl ?_
                refine wd_y 33 rfl (by kernel_rfl) rfl (y_pickT rfl rfl) ?_
                refine wd_y 34 rfl (by kernel_rfl) rfl (Yl.f (y_neB Try.underlying4 rfl rfl) (by
                  have hk := twice_key (s := s) (h := h) (i := i) (k := k) (by omega) hi0 (by omega) hk0 (by omega)
                  have ex := onF_split (rkL s h.toNat) i h
                  have ey := onF_split (rkL s h.toNat) k h
                  rw [rkL_len] at ex ey
                  simp only [ne_eq, decide_eq_true_eq, decide_eq_false_iff_not, decide_eq_decide, Decidable.not_not]
                  omega)) ?_
                refine wd_nil (by kernel_rfl) ?_
                exact ⟨(Sub.cons rfl (Sub.cons rfl (Sub.cons rfl (Sub.cons rfl (Sub.cons rfl (Sub.cons rfl (Sub.cons rfl Sub.nil))))))), fun _ h => h⟩
              ·
                refine wd_yg 19 rfl (by kernel_rfl) rfl rfl rfl (y_move rfl) ?_
                refine wd_yg 20 rfl (by kernel_rfl) rfl rfl rfl (y_move rfl) ?_
                refine wd_yg 21 rfl (by kernel_rfl) rfl rfl rfl (y_index1 Try.underlying22 sz3 rfl rfl (rdr 1 rfl) (by omega) (by omega)) ?_
                refine wd_yg 22 rfl (by kernel_rfl) rfl rfl rfl (y_ldI Try.underlying3 rfl rfl (rdr 1 rfl) (by omega) (by omega)) ?_
                refine wd_yg 23 rfl (by kernel_rfl) rfl rfl rfl (y_move rfl) ?_
                refine wd_yg 24 rfl (by kernel_rfl) rfl rfl rfl (y_move rfl) ?_
                refine wd_yg 25 rfl (by kernel_rfl) rfl rfl rfl (y_index1 Try.underlying22 sz3 rfl rfl (rdr 1 rfl) (by omega) (by omega)) ?_
                refine wd_yg 26 rfl (by kernel_rfl) rfl rfl rfl (y_ldI Try.underlying3 rfl rfl (rdr 1 rfl) (by omega) (by omega)) ?_
                refine wd_yg 27 rfl (by kernel_rfl) rfl rfl rfl (y_eq rfl rfl) ?_
                refine wd_yg 28 rfl (by kernel_rfl) rfl rfl rfl (y_move rfl) ?_
                refine wd_case 101 rfl (fun hc16 => ?_) (fun hc16 => ?_)
                ·
                  refine wd_yg 29 rfl (by kernel_rfl) rfl rfl rfl (y_move rfl) ?_
                  refine wd_yg 30 rfl (by kernel_rfl) rfl rfl rfl (y_move rfl) ?_
                  refine wd_yg 31 rfl (by kernel_rfl) rfl rfl rfl (y_lt rfl rfl) ?_
                  refine wd_yg 32 rfl (by kernel_rfl) rfl rfl rfl (y_pickT rfl rfl) ?_
                  refine wd_y 33 rfl (by kernel_rfl) rfl (y_pickF rfl rfl) ?_
                  refine wd_y 34 rfl (by kernel_rfl) rfl (Yl.f (y_neB Try.underlying4 rfl rfl) (by
                    have hk := twice_key (s := s) (h := h) (i := i) (k := k) (by omega) hi0 (by omega) hk0 (by omega)
                    have ex := onF_split (rkL s h.toNat) i h
                    have ey := onF_split (rkL s h.toNat) k h
                    rw [rkL_len] at ex ey
                    simp only [ne_eq, decide_eq_true_eq, decide_eq_false_iff_not, decide_eq_decide, Decidable.not_not]
                    omega)) ?_
                  refine wd_nil (by kernel_rfl) ?_
                  exact ⟨(Sub.cons rfl (Sub.cons rfl (Sub.cons rfl (Sub.cons rfl (Sub.cons rfl (Sub.cons rfl (Sub.cons rfl Sub.nil))))))), fun _ h => h⟩
                ·
                  refine wd_no 29 rfl (by kernel_rfl) rfl rfl rfl rfl ?_
                  refine wd_no 30 rfl (by kernel_rfl) rfl rfl rfl rfl ?_
                  refine wd_no 31 rfl (by kernel_rfl) rfl rfl rfl rfl ?_
                  refine wd_yg 32 rfl (by kernel_rfl) rfl rfl rfl (y_pickF rfl rfl) ?_
                  refine wd_y 33 rfl (by kernel_rfl) rfl (y_pickF rfl rfl) ?_
                  refine wd_y 34 rfl (by kernel_rfl) rfl (Yl.f (y_neB Try.underlying4 rfl rfl) (by
                    have hk := twice_key (s := s) (h := h) (i := i) (k := k) (by omega) hi0 (by omega) hk0 (by omega)
                    have ex := onF_split (rkL s h.toNat) i h
                    have ey := onF_split (rkL s h.toNat) k h
                    rw [rkL_len] at ex ey
                    simp only [ne_eq, decide_eq_true_eq, decide_eq_false_iff_not, decide_eq_decide, Decidable.not_not]
                    omega)) ?_
                  refine wd_nil (by kernel_rfl) ?_
                  exact ⟨(Sub.cons rfl (Sub.cons rfl (Sub.cons rfl (Sub.cons rfl (Sub.cons rfl (Sub.cons rfl (Sub.cons rfl Sub.nil))))))), fun _ h => h⟩
            refine w_false rfl ?_
            refine w_skip ?_
            refine w_reg ?_
            refine wr_y rfl (y_move rfl) ?_
            refine wr_y rfl (y_addI rfl rfl (by omega)) ?_
            refine wr_y rfl (y_assign rfl) ?_
            refine wr_nil ?_
            exact ⟨k + 1, ⟨(by omega), (by omega)⟩, (by omega), (Sub.cons rfl (Sub.cons rfl (Sub.cons rfl (Sub.cons rfl (Sub.cons rfl (Sub.cons rfl Sub.nil)))))), fun _ h => h⟩
      ·
        refine w_exit ?_
        refine w_reg ?_
        refine wr_y rfl (y_move rfl) ?_
        refine wr_y rfl (y_addI rfl rfl (by omega)) ?_
        refine wr_y rfl (y_assign rfl) ?_
        refine wr_nil ?_
        exact ⟨i + 1, ⟨(by omega), (by omega)⟩, (by omega), (Sub.cons rfl (Sub.cons rfl (Sub.cons rfl (Sub.cons rfl (Sub.cons rfl Sub.nil))))), fun _ h => h⟩
    ·
      refine w_exit ?_
      refine w_seq ?_
      refine w_reg ?_
      refine wr_a rfl (a_callF en22 rfl (Ct.quiet (fun w hw => known15_ct))) ?_
      rintro _ _ ⟨rfl, rfl⟩
      refine wr_y rfl (y_assign rfl) ?_
      refine wr_nil ?_
      refine w_retR (R1 := []) (fun _ h => h.sel [] (by decide) rfl) ?_
      refine ⟨_, rfl, ?_⟩
      rfl

/-! whorl/whorllaw15.DoubleSpread -/
set_option maxRecDepth 100000 in
set_option maxHeartbeats 400000 in
theorem doubleSpread_ct {w : World} {A_s : Option Addr} {n_s c_s : Nat} {s : List Int} {q : Int} {m : Int} (h_s : Rd w A_s n_s c_s 1 (ints .i64 s)) :
    Ct Try.prog 9 #[.slice A_s n_s c_s, .int .i64 q, .int .i64 m] w.heap.size w [] (fun v R' => v = .bool true) := by
  obtain rfl := h_s.lenI
  refine fn1 Try.func9 rfl rfl rfl ?_
  have m_s := h_s.max
  refine w_seq ?_
  refine w_reg ?_
  refine wr_y rfl (y_assign rfl) ?_
  refine wr_nil ?_
  refine w_seq ?_
  refine w_seq ?_
  refine w_reg ?_
  refine wr_y rfl (y_move rfl) ?_
  refine wr_y rfl (y_len Try.underlying22 rfl) ?_
  refine wr_y rfl (y_gt rfl rfl) ?_
  refine wr_y rfl (y_move rfl) ?_
  refine wr_mid 3 [(0, .slice A_s s.length c_s), (1, .int .i64 q), (2, .int .i64 m), (19, .bool (decide ((150 < ((s.length : Nat) : Int)) ∨ (q < 1))))] [] ?_ ?_
  ·
    refine wr_case 16 rfl (fun hc1 => ?_) (fun hc1 => ?_)
    ·
      refine wr_no rfl rfl rfl rfl ?_
      refine wr_no rfl rfl rfl rfl ?_
      refine wr_y rfl (y_pickT rfl rfl) ?_
      refine wr_nil ?_
      exact ⟨(Sub.cons rfl (Sub.cons rfl (Sub.cons rfl (Sub.to rfl (mb_t (by first | omega | simp [*])) Sub.nil)))), fun _ h => h⟩
    ·
      refine wr_yes rfl rfl ?_
      refine wr_y rfl (y_move rfl) ?_
      refine wr_yes rfl rfl ?_
      refine wr_y rfl (y_lt rfl rfl) ?_
      refine wr_y rfl (y_pickF rfl rfl) ?_
      refine wr_nil ?_
      exact ⟨(Sub.cons rfl (Sub.cons rfl (Sub.cons rfl (Sub.to rfl (mb (by first | omega | simp [*])) Sub.nil)))), fun _ h => h⟩
  refine wr_y rfl (y_move rfl) ?_
  refine wr_mid 3 [(0, .slice A_s s.length c_s), (1, .int .i64 q), (2, .int .i64 m), (23, .bool (decide (((150 < ((s.length : Nat) : Int)) ∨ (q < 1)) ∨ (9 < q))))] [] ?_ ?_
  ·
    refine wr_case 20 rfl (fun hc2 => ?_) (fun hc2 => ?_)
    ·
      refine wr_no rfl rfl rfl rfl ?_
      refine wr_no rfl rfl rfl rfl ?_
      refine wr_y rfl (y_pickT rfl rfl) ?_
      refine wr_nil ?_
      exact ⟨(Sub.cons rfl (Sub.cons rfl (Sub.cons rfl (Sub.to rfl (mb_t (by first | omega | simp [*])) Sub.nil)))), fun _ h => h⟩
    ·
      refine wr_yes rfl rfl ?_
      refine wr_y rfl (y_move rfl) ?_
      refine wr_yes rfl rfl ?_
      refine wr_y rfl (y_gt rfl rfl) ?_
      refine wr_y rfl (y_pickF rfl rfl) ?_
      refine wr_nil ?_
      exact ⟨(Sub.cons rfl (Sub.cons rfl (Sub.cons rfl (Sub.to rfl (mb (by first | omega | simp [*])) Sub.nil)))), fun _ h => h⟩
  refine wr_y rfl (y_move rfl) ?_
  refine wr_mid 3 [(0, .slice A_s s.length c_s), (1, .int .i64 q), (2, .int .i64 m), (27, .bool (decide ((((150 < ((s.length : Nat) : Int)) ∨ (q < 1)) ∨ (9 < q)) ∨ (m < 0))))] [] ?_ ?_
  ·
    refine wr_case 24 rfl (fun hc3 => ?_) (fun hc3 => ?_)
    ·
      refine wr_no rfl rfl rfl rfl ?_
      refine wr_no rfl rfl rfl rfl ?_
      refine wr_y rfl (y_pickT rfl rfl) ?_
      refine wr_nil ?_
      exact ⟨(Sub.cons rfl (Sub.cons rfl (Sub.cons rfl (Sub.to rfl (mb_t (by first | omega | simp [*])) Sub.nil)))), fun _ h => h⟩
    ·
      refine wr_yes rfl rfl ?_
      refine wr_y rfl (y_move rfl) ?_
      refine wr_yes rfl rfl ?_
      refine wr_y rfl (y_lt rfl rfl) ?_
      refine wr_y rfl (y_pickF rfl rfl) ?_
      refine wr_nil ?_
      exact ⟨(Sub.cons rfl (Sub.cons rfl (Sub.cons rfl (Sub.to rfl (mb (by first | omega | simp [*])) Sub.nil)))), fun _ h => h⟩
  refine wr_y rfl (y_move rfl) ?_
  refine wr_mid 3 [(0, .slice A_s s.length c_s), (1, .int .i64 q), (2, .int .i64 m), (31, .bool (decide (((((150 < ((s.length : Nat) : Int)) ∨ (q < 1)) ∨ (9 < q)) ∨ (m < 0)) ∨ (9 < m))))] [] ?_ ?_
  ·
    refine wr_case 28 rfl (fun hc4 => ?_) (fun hc4 => ?_)
    ·
      refine wr_no rfl rfl rfl rfl ?_
      refine wr_no rfl rfl rfl rfl ?_
      refine wr_y rfl (y_pickT rfl rfl) ?_
      refine wr_nil ?_
      exact ⟨(Sub.cons rfl (Sub.cons rfl (Sub.cons rfl (Sub.to rfl (mb_t (by first | omega | simp [*])) Sub.nil)))), fun _ h => h⟩
    ·
      refine wr_yes rfl rfl ?_
      refine wr_y rfl (y_move rfl) ?_
      refine wr_yes rfl rfl ?_
      refine wr_y rfl (y_gt rfl rfl) ?_
      refine wr_y rfl (y_pickF rfl rfl) ?_
      refine wr_nil ?_
      exact ⟨(Sub.cons rfl (Sub.cons rfl (Sub.cons rfl (Sub.to rfl (mb (by first | omega | simp [*])) Sub.nil)))), fun _ h => h⟩
  refine wr_nil ?_
  refine w_if rfl (fun hc5 => ?_) (fun hc5 => ?_)
  ·
    refine w_seq ?_
    refine w_reg ?_
    refine wr_y rfl (y_assign rfl) ?_
    refine wr_nil ?_
    refine w_ret ?_
    refine ⟨_, rfl, ?_⟩
    rfl
  ·
    refine w_skip ?_
    refine w_seq ?_
    refine w_reg ?_
    refine wr_sub (R1 := [⟨3, 1, none, 0, 0, ints .i64 ([]), false⟩]) (Sub.refl _) (fun _ h => h.nil 3 1) ?_
    refine wr_y rfl (y_assign rfl) ?_
    refine wr_nil ?_
    refine w_seq ?_
    refine w_seq ?_
    refine w_reg ?_
    refine wr_y rfl (y_assign rfl) ?_
    refine wr_nil ?_
    refine w_block ?_
    refine w_loop5 (fun (A1 : Option Addr) (n1 : Nat) (c1 : Nat) (acc : List Int) (i : Int) => [(0, .slice A_s s.length c_s), (1, .int .i64 q), (2, .int .i64 m), (7, .slice A1 n1 c1), (8, .int .i64 i)]) (fun (A1 : Option Addr) (n1 : Nat) (c1 : Nat) (acc : List Int) (i : Int) => [⟨3, 1, A1, n1, c1, ints .i64 acc, false⟩]) (fun (A1 : Option Addr) (n1 : Nat) (c1 : Nat) (acc : List Int) (i : Int) => (n1 = acc.length) ∧ (0 ≤ i) ∧ (i ≤ s.length) ∧ (acc = (s.take i.toNat).map (fun x => x * q + m)) ∧ (∀ x ∈ s.take i.toNat, 0 ≤ x ∧ x ≤ 200)) (fun (A1 : Option Addr) (n1 : Nat) (c1 : Nat) (acc : List Int) (i : Int) => (s.length - i).toNat) ?_ ?_
    ·
      exact ⟨none, 0, 0, [], 0, ⟨(rfl), (by omega), (by omega), (rfl), (fun x hx => by cases hx)⟩, (Sub.cons rfl (Sub.cons rfl (Sub.cons rfl (Sub.cons rfl (Sub.cons rfl Sub.nil))))), fun _ h => h⟩
    intro A1 n1 c1 acc i ⟨hn1, hi0, hi1, hacc, hall⟩
    have hal := congrArg List.length hacc
    rw [List.length_map, List.length_take] at hal
    refine w_seq ?_
    refine w_seq ?_
    refine w_reg ?_
    refine wr_y rfl (y_move rfl) ?_
    refine wr_y rfl (y_move rfl) ?_
    refine wr_y rfl (y_len Try.underlying22 rfl) ?_
    refine wr_y rfl (y_lt rfl rfl) ?_
    refine wr_nil ?_
    refine w_if rfl (fun hc6 => ?_) (fun hc6 => ?_)
    ·
      refine w_skip ?_
      refine w_seq ?_
      refine w_block ?_
      refine w_seq ?_
      refine w_seq ?_
      refine w_reg ?_
      refine wr_y rfl (y_move rfl) ?_
      refine wr_y rfl (y_move rfl) ?_
      refine wr_y rfl (y_index1 Try.underlying22 sz3 rfl rfl (h_s.c _) (by omega) (by omega)) ?_
      refine wr_y rfl (y_ldI Try.underlying3 rfl rfl (h_s.c _) (by omega) (by omega)) ?_
      refine wr_y rfl (y_lt rfl rfl) ?_
      refine wr_y rfl (y_move rfl) ?_
      refine wr_mid 6 [(0, .slice A_s s.length c_s), (1, .int .i64 q), (2, .int .i64 m), (7, .slice A1 n1 c1), (8, .int .i64 i), (49, .bool (decide (((rd s i) < 0) ∨ (200 < (rd s i)))))] [⟨3, 1, A1, n1, c1, ints .i64 acc, false⟩] ?_ ?_
      ·
        refine wr_case 43 rfl (fun hc7 => ?_) (fun hc7 => ?_)
        ·
          refine wr_no rfl rfl rfl rfl ?_
          refine wr_no rfl rfl rfl rfl ?_
          refine wr_no rfl rfl rfl rfl ?_
          refine wr_no rfl rfl rfl rfl ?_
          refine wr_no rfl rfl rfl rfl ?_
          refine wr_y rfl (y_pickT rfl rfl) ?_
          refine wr_nil ?_
          exact ⟨(Sub.cons rfl (Sub.cons rfl (Sub.cons rfl (Sub.cons rfl (Sub.cons rfl (Sub.to rfl (mb_t (by first | omega | simp [*])) Sub.nil)))))), fun _ h => h⟩
        ·
          refine wr_yes rfl rfl ?_
          refine wr_y rfl (y_move rfl) ?_
          refine wr_yes rfl rfl ?_
          refine wr_y rfl (y_move rfl) ?_
          refine wr_yes rfl rfl ?_
          refine wr_y rfl (y_index1 Try.underlying22 sz3 rfl rfl (h_s.c _) (by omega) (by omega)) ?_
          refine wr_yes rfl rfl ?_
          refine wr_y rfl (y_ldI Try.underlying3 rfl rfl (h_s.c _) (by omega) (by omega)) ?_
          refine wr_yes rfl rfl ?_
          refine wr_y rfl (y_gt rfl rfl) ?_
          refine wr_y rfl (y_pickF rfl rfl) ?_
          refine wr_nil ?_
          exact ⟨(Sub.cons rfl (Sub.cons rfl (Sub.cons rfl (Sub.cons rfl (Sub.cons rfl (Sub.to rfl (mb (by first | omega | simp [*])) Sub.nil)))))), fun _ h => h⟩
      refine wr_nil ?_
      refine w_if rfl (fun hc8 => ?_) (fun hc8 => ?_)
      ·
        refine w_seq ?_
        refine w_reg ?_
        refine wr_y rfl (y_assign rfl) ?_
        refine wr_nil ?_
        refine w_retR (R1 := []) (fun _ h => h.sel [] (by decide) rfl) ?_
        refine ⟨_, rfl, ?_⟩
        rfl
      ·
        have hm1 : 0 ≤ rd s i * q := Int.mul_nonneg (by omega) (by omega)
        have hm2 : rd s i * q ≤ 200 * 9 := Int.mul_le_mul (by omega) (by omega) (by omega) (by omega)
        refine w_skip ?_
        refine w_reg ?_
        refine wr_y rfl (y_move rfl) ?_
        refine wr_y rfl (y_move rfl) ?_
        refine wr_y rfl (y_move rfl) ?_
        refine wr_y rfl (y_index1 Try.underlying22 sz3 rfl rfl (h_s.c _) (by omega) (by omega)) ?_
        refine wr_y rfl (y_ldI Try.underlying3 rfl rfl (h_s.c _) (by omega) (by omega)) ?_
        refine wr_y rfl (y_move rfl) ?_
        refine wr_y rfl (y_mulI rfl rfl (by omega)) ?_
        refine wr_y rfl (y_move rfl) ?_
        refine wr_y rfl (y_addI rfl rfl (by omega)) ?_
        refine wr_a rfl (a_litI .i64 [((rd s i) * q) + m] Try.underlying22 zs3 rfl rfl rfl) ?_
        rintro _ _ ⟨g_2, rfl, rfl⟩
        refine wr_a rfl (a_appendI 1 rfl Try.underlying22 zb3 rfl rfl rfl (rdr 0 rfl) (by omega)) ?_
        rintro _ _ ⟨A_3, c_4, rfl, rfl⟩
        refine wr_rows (R1 := [⟨3, 1, (some ⟨g_2, 0, none⟩), 1, 1, ints .i64 ([((rd s i) * q) + m]), false⟩, ⟨3, 1, A_3, (n1 + 1), c_4, ints .i64 (acc ++ ([((rd s i) * q) + m])), false⟩]) rfl ?_
        refine wr_as (v := .slice A_3 (n1 + 1) c_4) rfl ?_
        refine wr_y rfl (y_assign rfl) ?_
        refine wr_nil ?_
        refine w_reg ?_
        refine wr_y rfl (y_move rfl) ?_
        refine wr_y rfl (y_addI rfl rfl (by omega)) ?_
        refine wr_y rfl (y_assign rfl) ?_
        refine wr_nil ?_
        exact ⟨A_3, n1 + 1, c_4, acc ++ ([((rd s i) * q) + m]), i + 1, ⟨(by rw [List.length_append, hn1]; try rfl), (by omega), (by omega), (by rw [take_rd hi0 (by omega), List.map_append, hacc]; rfl), (by rw [take_rd hi0 (by omega)]; intro x hx; rcases List.mem_append.1 hx with hx | hx; exact hall x hx; obtain rfl := List.mem_singleton.1 hx; omega)⟩, (by omega), (Sub.cons rfl (Sub.cons rfl (Sub.cons rfl (Sub.cons rfl (Sub.cons rfl Sub.nil))))), fun _ h => h.sel [1] (by decide) rfl⟩
    ·
      have hs1 : ∀ x ∈ s, 0 ≤ x ∧ x ≤ 200 := by rw [List.take_of_length_le (by omega)] at hall; exact hall
      have hac : acc = s.map (fun x => x * q + m) := by rw [hacc, List.take_of_length_le (by omega)]
      have hmono : ∀ x y : Int, x < y ↔ (fun x => x * q + m) x < (fun x => x * q + m) y := fun x y => by
        have h1 : x < y → x * q < y * q := fun h => Int.mul_lt_mul_of_pos_right h (by omega)
        have h2 : y ≤ x → y * q ≤ x * q := fun h => Int.mul_le_mul_of_nonneg_right h (by omega)
        simp only
        omega
      have hal2 : acc.length = s.length := by omega
      refine w_exit ?_
      refine w_seq ?_
      refine w_reg ?_
      refine wr_y rfl (y_move rfl) ?_
      refine wr_a rfl (a_callF en19 rfl (Ct.fresh (fun w hw => ints15_ct ((h_s.c _) w hw) ⟨by omega, fun x hx => by have := hs1 x hx; omega⟩ (by omega)))) ?_
      rintro _ _ ⟨_, rfl, o1, A_5, c_6, rfl, hl_o1, hq_o1, rfl⟩
      refine wr_y rfl (y_move rfl) ?_
      refine wr_y rfl (y_extract rfl rfl) ?_
      refine wr_y rfl (y_extract rfl rfl) ?_
      refine wr_y rfl (y_assign rfl) ?_
      refine wr_y rfl (y_assign rfl) ?_
      refine wr_nil ?_
      refine w_seq ?_
      refine w_reg ?_
      refine wr_y rfl (y_move rfl) ?_
      refine wr_y rfl (y_move rfl) ?_
      refine wr_y rfl (y_mulI rfl rfl (by omega)) ?_
      refine wr_y rfl (y_move rfl) ?_
      refine wr_y rfl (y_addI rfl rfl (by omega)) ?_
      refine wr_y rfl (y_addI rfl rfl (by omega)) ?_
      refine wr_a rfl (a_callF en19 rfl (Ct.fresh (fun w hw => ints15_ct ((rdr 1 rfl) w hw) ⟨by omega, fun x hx => by
            rw [hac] at hx
            obtain ⟨y, hy, rfl⟩ := List.mem_map.1 hx
            have h1 := hs1 y hy
            have h2 : 0 ≤ y * q := Int.mul_nonneg (by omega) (by omega)
            have h3 : y * q ≤ 200 * q := Int.mul_le_mul_of_nonneg_right (by omega) (by omega)
            show 0 ≤ y * q + m ∧ y * q + m < _
            omega⟩ (by omega)))) ?_
      rintro _ _ ⟨_, rfl, o2, A_8, c_9, rfl, hl_o2, hq_o2, rfl⟩
      refine wr_y rfl (y_move rfl) ?_
      refine wr_y rfl (y_extract rfl rfl) ?_
      refine wr_y rfl (y_extract rfl rfl) ?_
      refine wr_y rfl (y_assign rfl) ?_
      refine wr_y rfl (y_assign rfl) ?_
      refine wr_nil ?_
      refine w_seq ?_
      refine w_reg ?_
      refine wr_y rfl (y_move rfl) ?_
      refine wr_y rfl (Yl.t (y_eq rfl rfl) (rfl)) ?_
      refine wr_y rfl (y_move rfl) ?_
      refine wr_yes rfl rfl ?_
      refine wr_y rfl (y_move rfl) ?_
      refine wr_yes rfl rfl ?_
      refine wr_y rfl (Yl.t (y_eq rfl rfl) (rfl)) ?_
      refine wr_y rfl (y_pickT rfl rfl) ?_
      refine wr_y rfl (y_move rfl) ?_
      refine wr_yes rfl rfl ?_
      refine wr_y rfl (y_move rfl) ?_
      refine wr_yes rfl rfl ?_
      refine wr_y rfl (y_len Try.underlying22 rfl) ?_
      refine wr_yes rfl rfl ?_
      refine wr_y rfl (y_move rfl) ?_
      refine wr_yes rfl rfl ?_
      refine wr_y rfl (y_len Try.underlying22 rfl) ?_
      refine wr_yes rfl rfl ?_
      refine wr_y rfl (Yl.t (y_eq rfl rfl) (rfl)) ?_
      refine wr_y rfl (y_pickT rfl rfl) ?_
      refine wr_y rfl (y_move rfl) ?_
      refine wr_yes rfl rfl ?_
      refine wr_y rfl (y_move rfl) ?_
      refine wr_yes rfl rfl ?_
      refine wr_y rfl (y_move rfl) ?_
      refine wr_yes rfl rfl ?_
      refine wr_a rfl (a_callF en21 rfl (Ct.quiet (fun w hw => ints4_ct ((rdr 1 rfl) w hw) ((rdr 0 rfl) w hw) (by rw [hl_o1]; omega)))) ?_
      rintro _ _ ⟨rfl, rfl⟩
      refine wr_setT 92 rfl (outs_eq hl_o1 (by rw [hl_o2, hal2]) hq_o1 (fun p hp => by have h := hq_o2 p (by omega); rw [hal2, hac, rkS_map hmono] at h; exact h)) ?_
      refine wr_y rfl (y_pickT rfl rfl) ?_
      refine wr_y rfl (y_move rfl) ?_
      refine wr_yes rfl rfl ?_
      refine wr_a rfl (a_callF en22 rfl (Ct.quiet (fun w hw => known15_ct))) ?_
      rintro _ _ ⟨rfl, rfl⟩
      refine wr_y rfl (y_pickT rfl rfl) ?_
      refine wr_y rfl (y_assign rfl) ?_
      refine wr_nil ?_
      refine w_retR (R1 := []) (fun _ h => h.sel [] (by decide) rfl) ?_
      refine ⟨_, rfl, ?_⟩
      rfl

end Go.Proofs.Ytlagmdccneompaa
