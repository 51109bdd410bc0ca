/- Walks of Go functions, printed by a program of our own. -/
import Derived.Test.YtdfcnalkdlifiaaF8
import Derived.Test.YtdfcnalkdlifiaaQ36
import Derived.Test.YtdfcnalkdlifiaaE25
import Derived.Test.YtdfcnalkdlifiaaQ6
import Derived.Test.YtdfcnalkdlifiaaE15
namespace Go.Proofs.Ytdfcnalkdlifiaa
open Go Go.Eng Go.Pure
set_option linter.unusedVariables false
theorem LA.init0 {u : List Int} : LA u (lrotK u u.length) 0 1 0 := LA.init _
/-! whorl/least.At -/
set_option maxRecDepth 100000 in
set_option maxHeartbeats 800000 in
theorem at6_ct {w : World} {A_u : Option Addr} {n_u c_u : Nat} {u : List Int} (h_u : Rd w A_u n_u c_u 1 (ints .u8 u)) (hN : u.length ≤ 1000000) :
    Ct Try.prog 87 #[.slice A_u n_u c_u] w.heap.size w [] (fun v R' => v = .int .i64 (lrot u)) := by
  obtain rfl := h_u.lenI
  refine fn1 Try.func87 rfl rfl rfl ?_
  have m_u := h_u.max
  refine w_seq ?_
  refine w_reg ?_
  refine wr_y rfl (y_assign rfl) ?_
  refine wr_nil ?_
  refine w_seq ?_
  refine w_reg ?_
  refine wr_y rfl (y_move rfl) ?_
  refine wr_y rfl (y_len Try.underlying22 rfl) ?_
  refine wr_y rfl (y_assign rfl) ?_
  refine wr_nil ?_
  refine w_seq ?_
  refine w_reg ?_
  refine wr_y rfl (y_assign rfl) ?_
  refine wr_y rfl (y_assign rfl) ?_
  refine wr_y rfl (y_assign rfl) ?_
  refine wr_nil ?_
  refine w_seq ?_
  refine w_block ?_
  refine w_loop3 (fun (i : Int) (j : Int) (k : Int) => [(0, .slice A_u u.length c_u), (3, .int .i64 ((u.length : Nat) : Int)), (4, .int .i64 i), (5, .int .i64 j), (6, .int .i64 k)]) (fun (i : Int) (j : Int) (k : Int) => []) (fun (i : Int) (j : Int) (k : Int) => (LA u (lrotK u u.length) i j k) ∧ (i ≤ 2 * u.length + 2) ∧ (j ≤ 2 * u.length + 3) ∧ (k ≤ u.length) ∧ (u.length = 0 → i = 0 ∧ j = 1)) (fun (i : Int) (j : Int) (k : Int) => (3 * u.length + 3 - (i + j + k)).toNat) ?_ ?_
  ·
    exact ⟨0, 1, 0, ⟨(LA.init0), (by omega), (by omega), (by omega), (by omega)⟩, (Sub.cons rfl (Sub.cons rfl (Sub.cons rfl (Sub.cons rfl (Sub.cons rfl Sub.nil))))), fun _ h => h⟩
  intro i j k ⟨hLA, hib, hjb, hkb, hz⟩
  have hi0 := hLA.i0
  have hj0 := hLA.j0
  have hk0 := hLA.k0
  refine w_seq ?_
  refine w_seq ?_
  refine w_reg ?_
  refine wr_y rfl (y_move rfl) ?_
  refine wr_y rfl (y_move rfl) ?_
  refine wr_y rfl (y_lt rfl rfl) ?_
  refine wr_y rfl (y_move rfl) ?_
  refine wr_mid 4 [(0, .slice A_u u.length c_u), (3, .int .i64 ((u.length : Nat) : Int)), (4, .int .i64 i), (5, .int .i64 j), (6, .int .i64 k), (18, .bool (decide ((i < ((u.length : Nat) : Int)) ∧ (j < ((u.length : Nat) : Int)))))] [] ?_ ?_
  ·
    refine wr_case 14 rfl (fun hc1 => ?_) (fun hc1 => ?_)
    ·
      refine wr_yes rfl rfl ?_
      refine wr_y rfl (y_move rfl) ?_
      refine wr_yes rfl rfl ?_
      refine wr_y rfl (y_move rfl) ?_
      refine wr_yes rfl rfl ?_
      refine wr_y rfl (y_lt rfl rfl) ?_
      refine wr_y rfl (y_pickT rfl rfl) ?_
      refine wr_nil ?_
      exact ⟨(Sub.cons rfl (Sub.cons rfl (Sub.cons rfl (Sub.cons rfl (Sub.cons rfl (Sub.to rfl (mb (by first | omega | exact ⟨fun h => ⟨(by assumption), h⟩, fun h => h.2⟩ | simp [*])) Sub.nil)))))), fun _ h => h⟩
    ·
      refine wr_no rfl rfl rfl rfl ?_
      refine wr_no rfl rfl rfl rfl ?_
      refine wr_no rfl rfl rfl rfl ?_
      refine wr_y rfl (y_pickF rfl rfl) ?_
      refine wr_nil ?_
      exact ⟨(Sub.cons rfl (Sub.cons rfl (Sub.cons rfl (Sub.cons rfl (Sub.cons rfl (Sub.to rfl (mb_f (by first | omega | exact ⟨fun h => ⟨(by assumption), h⟩, fun h => h.2⟩ | simp [*])) Sub.nil)))))), fun _ h => h⟩
  refine wr_y rfl (y_move rfl) ?_
  refine wr_mid 4 [(0, .slice A_u u.length c_u), (3, .int .i64 ((u.length : Nat) : Int)), (4, .int .i64 i), (5, .int .i64 j), (6, .int .i64 k), (23, .bool (decide (((i < ((u.length : Nat) : Int)) ∧ (j < ((u.length : Nat) : Int))) ∧ (k < ((u.length : Nat) : Int)))))] [] ?_ ?_
  ·
    refine wr_case 19 rfl (fun hc2 => ?_) (fun hc2 => ?_)
    ·
      refine wr_yes rfl rfl ?_
      refine wr_y rfl (y_move rfl) ?_
      refine wr_yes rfl rfl ?_
      refine wr_y rfl (y_move rfl) ?_
      refine wr_yes rfl rfl ?_
      refine wr_y rfl (y_lt rfl rfl) ?_
      refine wr_y rfl (y_pickT rfl rfl) ?_
      refine wr_nil ?_
      exact ⟨(Sub.cons rfl (Sub.cons rfl (Sub.cons rfl (Sub.cons rfl (Sub.cons rfl (Sub.to rfl (mb (by first | omega | exact ⟨fun h => ⟨(by assumption), h⟩, fun h => h.2⟩ | simp [*])) Sub.nil)))))), fun _ h => h⟩
    ·
      refine wr_no rfl rfl rfl rfl ?_
      refine wr_no rfl rfl rfl rfl ?_
      refine wr_no rfl rfl rfl rfl ?_
      refine wr_y rfl (y_pickF rfl rfl) ?_
      refine wr_nil ?_
      exact ⟨(Sub.cons rfl (Sub.cons rfl (Sub.cons rfl (Sub.cons rfl (Sub.cons rfl (Sub.to rfl (mb_f (by first | omega | exact ⟨fun h => ⟨(by assumption), h⟩, fun h => h.2⟩ | simp [*])) Sub.nil)))))), fun _ h => h⟩
  refine wr_nil ?_
  refine w_if rfl (fun hc3 => ?_) (fun hc3 => ?_)
  ·
    have hm1 := Int.emod_nonneg (i + k) (show (u.length : Int) ≠ 0 by omega)
    have hm2 := Int.emod_lt_of_pos (i + k) (show (0 : Int) < u.length by omega)
    have hm3 := Int.emod_nonneg (j + k) (show (u.length : Int) ≠ 0 by omega)
    have hm4 := Int.emod_lt_of_pos (j + k) (show (0 : Int) < u.length by omega)
    have fl := lrot_FL (s := u) (by omega)
    have ei := rot_rd (s := u) hLA.i0 hLA.k0
    have ej := rot_rd (s := u) hLA.j0 hLA.k0
    refine w_skip ?_
    refine w_block ?_
    refine w_seq ?_
    refine w_regd mixed ?_
    refine wd_y 0 rfl (by kernel_rfl) rfl (y_move rfl) ?_
    refine wd_y 1 rfl (by kernel_rfl) rfl (y_move rfl) ?_
    refine wd_y 2 rfl (by kernel_rfl) rfl (y_move rfl) ?_
    refine wd_y 3 rfl (by kernel_rfl) rfl (y_addI rfl rfl (by omega)) ?_
    refine wd_y 4 rfl (by kernel_rfl) rfl (y_move rfl) ?_
    refine wd_y 5 rfl (by kernel_rfl) rfl (y_rem rfl rfl (by omega) (by omega)) ?_
    refine wd_y 6 rfl (by kernel_rfl) rfl (y_index1 Try.underlying22 sz5 rfl rfl (h_u.c _) (by omega) (by omega)) ?_
    refine wd_y 7 rfl (by kernel_rfl) rfl (y_ldI Try.underlying5 rfl rfl (h_u.c _) (by omega) (by omega)) ?_
    refine wd_y 8 rfl (by kernel_rfl) rfl (y_move rfl) ?_
    refine wd_y 9 rfl (by kernel_rfl) rfl (y_move rfl) ?_
    refine wd_y 10 rfl (by kernel_rfl) rfl (y_move rfl) ?_
    refine wd_y 11 rfl (by kernel_rfl) rfl (y_addI rfl rfl (by omega)) ?_
    refine wd_y 12 rfl (by kernel_rfl) rfl (y_move rfl) ?_
    refine wd_y 13 rfl (by kernel_rfl) rfl (y_rem rfl rfl (by omega) (by omega)) ?_
    refine wd_y 14 rfl (by kernel_rfl) rfl (y_index1 Try.underlying22 sz5 rfl rfl (h_u.c _) (by omega) (by omega)) ?_
    refine wd_y 15 rfl (by kernel_rfl) rfl (y_ldI Try.underlying5 rfl rfl (h_u.c _) (by omega) (by omega)) ?_
    refine wd_y 16 rfl (by kernel_rfl) rfl (y_assign rfl) ?_
    refine wd_y 17 rfl (by kernel_rfl) rfl (y_assign rfl) ?_
    refine wd_nil (by kernel_rfl) ?_
    refine w_seq ?_
    refine w_block ?_
    refine w_seq ?_
    refine w_reg ?_
    refine wr_y rfl (y_move rfl) ?_
    refine wr_y rfl (y_move rfl) ?_
    refine wr_y rfl (y_eq rfl rfl) ?_
    refine wr_y rfl (y_assign rfl) ?_
    refine wr_nil ?_
    refine w_if rfl (fun hc4 => ?_) (fun hc4 => ?_)
    ·
      have hst := hLA.eq (by rw [← ei, ← ej]; exact hc4)
      refine w_seq ?_
      refine w_reg ?_
      refine wr_y rfl (y_move rfl) ?_
      refine wr_y rfl (y_addI rfl rfl (by omega)) ?_
      refine wr_y rfl (y_assign rfl) ?_
      refine wr_nil ?_
      refine w_exit ?_
      exact ⟨i, j, k + 1, ⟨(hst), (by omega), (by omega), (by omega), (by omega)⟩, (by omega), (Sub.cons rfl (Sub.cons rfl (Sub.cons rfl (Sub.cons rfl (Sub.cons rfl Sub.nil))))), fun _ h => h⟩
    ·
      refine w_seq ?_
      refine w_reg ?_
      refine wr_y rfl (y_move rfl) ?_
      refine wr_y rfl (y_move rfl) ?_
      refine wr_y rfl (y_gt rfl rfl) ?_
      refine wr_y rfl (y_assign rfl) ?_
      refine wr_nil ?_
      refine w_if rfl (fun hc5 => ?_) (fun hc5 => ?_)
      ·
        have hst := hLA.gt fl (by rw [← ei, ← ej]; exact hc5)
        refine w_reg ?_
        refine wr_y rfl (y_move rfl) ?_
        refine wr_y rfl (y_move rfl) ?_
        refine wr_y rfl (y_addI rfl rfl (by omega)) ?_
        refine wr_y rfl (y_addI rfl rfl (by omega)) ?_
        refine wr_y rfl (y_assign rfl) ?_
        refine wr_nil ?_
        refine w_seq ?_
        refine w_reg ?_
        refine wr_y rfl (y_assign rfl) ?_
        refine wr_nil ?_
        refine w_seq ?_
        refine w_reg ?_
        refine wr_y rfl (y_move rfl) ?_
        refine wr_y rfl (y_move rfl) ?_
        refine wr_y rfl (y_eq rfl rfl) ?_
        refine wr_nil ?_
        refine w_if rfl (fun hc6 => ?_) (fun hc6 => ?_)
        ·
          refine w_reg ?_
          refine wr_y rfl (y_move rfl) ?_
          refine wr_y rfl (y_addI rfl rfl (by omega)) ?_
          refine wr_y rfl (y_assign rfl) ?_
          refine wr_nil ?_
          exact ⟨i + (k + 1), j + 1, 0, ⟨(hst.2 (by omega)), (by omega), (by omega), (by omega), (by omega)⟩, (by omega), (Sub.cons rfl (Sub.cons rfl (Sub.cons rfl (Sub.cons rfl (Sub.cons rfl Sub.nil))))), fun _ h => h⟩
        ·
          refine w_skip ?_
          exact ⟨i + (k + 1), j, 0, ⟨(hst.1 (by omega)), (by omega), (by omega), (by omega), (by omega)⟩, (by omega), (Sub.cons rfl (Sub.cons rfl (Sub.cons rfl (Sub.cons rfl (Sub.cons rfl Sub.nil))))), fun _ h => h⟩
      ·
        have hst := hLA.lt fl (by rw [← ei, ← ej]; omega)
        refine w_reg ?_
        refine wr_y rfl (y_move rfl) ?_
        refine wr_y rfl (y_move rfl) ?_
        refine wr_y rfl (y_addI rfl rfl (by omega)) ?_
        refine wr_y rfl (y_addI rfl rfl (by omega)) ?_
        refine wr_y rfl (y_assign rfl) ?_
        refine wr_nil ?_
        refine w_seq ?_
        refine w_reg ?_
        refine wr_y rfl (y_assign rfl) ?_
        refine wr_nil ?_
        refine w_seq ?_
        refine w_reg ?_
        refine wr_y rfl (y_move rfl) ?_
        refine wr_y rfl (y_move rfl) ?_
        refine wr_y rfl (y_eq rfl rfl) ?_
        refine wr_nil ?_
        refine w_if rfl (fun hc7 => ?_) (fun hc7 => ?_)
        ·
          refine w_reg ?_
          refine wr_y rfl (y_move rfl) ?_
          refine wr_y rfl (y_addI rfl rfl (by omega)) ?_
          refine wr_y rfl (y_assign rfl) ?_
          refine wr_nil ?_
          exact ⟨i, (j + (k + 1)) + 1, 0, ⟨(hst.2 (by omega)), (by omega), (by omega), (by omega), (by omega)⟩, (by omega), (Sub.cons rfl (Sub.cons rfl (Sub.cons rfl (Sub.cons rfl (Sub.cons rfl Sub.nil))))), fun _ h => h⟩
        ·
          refine w_skip ?_
          exact ⟨i, j + (k + 1), 0, ⟨(hst.1 (by omega)), (by omega), (by omega), (by omega), (by omega)⟩, (by omega), (Sub.cons rfl (Sub.cons rfl (Sub.cons rfl (Sub.cons rfl (Sub.cons rfl Sub.nil))))), fun _ h => h⟩
  ·
    refine w_exit ?_
    refine w_seq ?_
    refine w_reg ?_
    refine wr_y rfl (y_move rfl) ?_
    refine wr_y rfl (y_move rfl) ?_
    refine wr_y rfl (y_min rfl rfl) ?_
    refine wr_y rfl (y_assign rfl) ?_
    refine wr_nil ?_
    refine w_ret ?_
    refine ⟨_, rfl, ?_⟩
    rcases Nat.eq_zero_or_pos u.length with z | z
    · obtain ⟨rfl, rfl⟩ := hz z
      have e : lrot u = 0 := by unfold lrot; rw [z]; rfl
      rw [e]; rfl
    · exact congrArg (Value.int .i64) (hLA.done (lrot_FL z) (by omega))

/-! slices.Grow[[]byte,byte] -/
set_option maxRecDepth 100000 in
theorem growB_ct {w : World} {m : Int} (h0 : 0 ≤ m) (hN : m ≤ 1000000) :
    Ct Try.prog 101 #[.slice none 0 0, .int .i64 m] w.heap.size w [] (fun v R' => ∃ A c, v = .slice A 0 c ∧ R' = [⟨5, 1, A, 0, c, ints .u8 [], false⟩]) := by
  refine fn1 Try.func101 rfl rfl rfl ?_
  refine w_seq ?_
  refine w_reg ?_
  refine wr_sub (R1 := [⟨5, 1, none, 0, 0, ints .u8 ([]), false⟩]) (Sub.refl _) (fun _ h => h.nil 5 1) ?_
  refine wr_y rfl (y_assign rfl) ?_
  refine wr_nil ?_
  refine w_seq ?_
  refine w_seq ?_
  refine w_reg ?_
  refine wr_y rfl (y_move rfl) ?_
  refine wr_y rfl (Yl.f (y_lt rfl rfl) (by omega)) ?_
  refine wr_nil ?_
  refine w_false rfl ?_
  refine w_skip ?_
  refine w_seq ?_
  refine w_seq ?_
  refine w_reg ?_
  refine wr_y rfl (y_move rfl) ?_
  refine wr_y rfl (y_move rfl) ?_
  refine wr_y rfl (y_cap Try.underlying22 rfl) ?_
  refine wr_y rfl (y_move rfl) ?_
  refine wr_y rfl (y_len Try.underlying22 rfl) ?_
  refine wr_y rfl (y_subI rfl rfl (by omega)) ?_
  refine wr_y rfl (y_subI rfl rfl (by omega)) ?_
  refine wr_y rfl (y_assign rfl) ?_
  refine wr_nil ?_
  refine w_seq ?_
  refine w_reg ?_
  refine wr_y rfl (y_move rfl) ?_
  refine wr_y rfl (y_gt rfl rfl) ?_
  refine wr_nil ?_
  refine w_if rfl (fun hc1 => ?_) (fun hc1 => ?_)
  ·
    refine w_reg ?_
    refine wr_y rfl (y_move rfl) ?_
    refine wr_y rfl (y_move rfl) ?_
    refine wr_y rfl (y_cap Try.underlying22 rfl) ?_
    refine wr_y rfl (y_sliceZ Try.underlying22 sz5 rfl rfl) ?_
    refine wr_y rfl (Yl.is (y_move rfl) (by rw [show m - (((0 : Nat) : Int) - ((0 : Nat) : Int)) = ((m.toNat : Nat) : Int) by omega])) ?_
    refine wr_a rfl (a_zeros Try.underlying22 Try.underlying3 zb5 rfl rfl rfl (by omega) (by omega) (by omega)) ?_
    rintro _ _ ⟨g_1, c_2, rfl, rfl⟩
    refine wr_sub (R1 := [⟨5, 1, (some ⟨g_1, 0, none⟩), 0, c_2, ints .u8 ([]), false⟩, ⟨5, 1, none, 0, 0, ints .u8 ([]), false⟩]) (Sub.refl _) (fun _ h => h.cut (k := 0) (Nat.zero_le _) (by simp)) ?_
    refine wr_y rfl (y_move rfl) ?_
    refine wr_y rfl (y_len Try.underlying22 rfl) ?_
    refine wr_y rfl (y_sliceZ Try.underlying22 sz5 rfl rfl) ?_
    refine wr_y rfl (y_assign rfl) ?_
    refine wr_nil ?_
    refine w_seq ?_
    refine w_reg ?_
    refine wr_y rfl (y_move rfl) ?_
    refine wr_y rfl (y_assign rfl) ?_
    refine wr_nil ?_
    refine w_retR (R1 := [⟨5, 1, (some ⟨g_1, 0, none⟩), 0, c_2, ints .u8 ([]), false⟩]) (fun _ h => h.sel [0] (by decide) rfl) ?_
    refine ⟨_, rfl, ?_⟩
    exact ⟨_, _, rfl, rfl⟩
  ·
    refine w_skip ?_
    refine w_seq ?_
    refine w_reg ?_
    refine wr_y rfl (y_move rfl) ?_
    refine wr_y rfl (y_assign rfl) ?_
    refine wr_nil ?_
    refine w_retR (R1 := [⟨5, 1, none, 0, 0, ints .u8 ([]), false⟩]) (fun _ h => h.sel [0] (by decide) rfl) ?_
    refine ⟨_, rfl, ?_⟩
    exact ⟨_, _, rfl, rfl⟩

theorem flat_le {ws : List (List Int)} (i : Nat) : ((ws.take i).flatten).length ≤ ws.flatten.length := by
  conv => rhs; rw [← List.take_append_drop i ws]
  rw [List.flatten_append, List.length_append]
  omega
/-! slices.Concat[[]byte,byte] -/
set_option maxRecDepth 100000 in
set_option maxHeartbeats 800000 in
theorem concatB_ct {w : World} {A_ws : Option Addr} {n_ws c_ws : Nat} {vals_ws : List Value} {ws : List (List Int)} (h_ws : Rd w A_ws n_ws c_ws 1 vals_ws) (s_ws : SlW .u8 w vals_ws ws) (hN : ws.flatten.length ≤ 1000000 ∧ ws.length ≤ 1000000) :
    Ct Try.prog 88 #[.slice A_ws n_ws c_ws] w.heap.size w [] (fun v R' => ∃ A c, v = .slice A (ws.flatten).length c ∧ R' = [⟨5, 1, A, (ws.flatten).length, c, ints .u8 (ws.flatten), false⟩]) := by
  obtain rfl : n_ws = ws.length := by have := h_ws.len; have := s_ws.1; omega
  refine fn1 Try.func88 rfl rfl rfl ?_
  have m_ws := h_ws.max
  refine w_seq ?_
  refine w_reg ?_
  refine wr_y rfl (y_assign rfl) ?_
  refine wr_nil ?_
  refine w_seq ?_
  refine w_reg ?_
  refine wr_y rfl (y_assign rfl) ?_
  refine wr_nil ?_
  refine w_seq ?_
  refine w_seq ?_
  refine w_reg ?_
  refine wr_y rfl (y_move rfl) ?_
  refine wr_y rfl (y_len Try.underlying30 rfl) ?_
  refine wr_y rfl (y_move rfl) ?_
  refine wr_nil ?_
  refine w_block ?_
  refine w_loop2 (fun (i : Int) (z : Int) => [(0, .slice A_ws ws.length c_ws), (3, .int .i64 z), (9, .slice A_ws ws.length c_ws), (10, .int .i64 ((ws.length : Nat) : Int)), (11, .int .i64 i)]) (fun (i : Int) (z : Int) => []) (fun (i : Int) (z : Int) => (0 ≤ i) ∧ (i ≤ ws.length) ∧ (z = ((ws.take i.toNat).flatten.length : Int))) (fun (i : Int) (z : Int) => (ws.length - i).toNat) ?_ ?_
  ·
    exact ⟨0, 0, ⟨(by omega), (by omega), (rfl)⟩, (Sub.cons rfl (Sub.cons rfl (Sub.cons rfl (Sub.cons rfl (Sub.cons rfl Sub.nil))))), fun _ h => h⟩
  intro i z ⟨hi0, hi1, hz⟩
  have hfl := flat_le (ws := ws) i.toNat
  refine w_seq ?_
  refine w_reg ?_
  refine wr_y rfl (y_lt rfl rfl) ?_
  refine wr_nil ?_
  refine w_seq ?_
  refine w_if rfl (fun hc1 => ?_) (fun hc1 => ?_)
  ·
    have hfl2 := flat_le (ws := ws) (i + 1).toNat
    rw [flat_take_succ hi0 (by omega), List.length_append] at hfl2
    refine w_skip ?_
    refine w_seq ?_
    refine w_block ?_
    refine w_seq ?_
    refine w_reg ?_
    refine wr_y rfl (y_index1 Try.underlying30 sz22 rfl rfl (h_ws.c _) (by omega) (by omega)) ?_
    refine s_ws.elim (i := i) (by omega) (by omega) (fun A_1 c_2 hv_3 hr_4 hb_5 mhr_4 => ?_)
    refine wr_y rfl (y_ld Try.underlying22 rfl rfl rfl (h_ws.c _) hv_3) ?_
    refine wr_y rfl (y_assign rfl) ?_
    refine wr_nil ?_
    refine w_seq ?_
    refine w_reg ?_
    refine wr_y rfl (y_move rfl) ?_
    refine wr_y rfl (y_move rfl) ?_
    refine wr_y rfl (y_len Try.underlying22 rfl) ?_
    refine wr_y rfl (y_addI rfl rfl (by omega)) ?_
    refine wr_y rfl (y_assign rfl) ?_
    refine wr_nil ?_
    refine w_seq ?_
    refine w_reg ?_
    refine wr_y rfl (y_move rfl) ?_
    refine wr_y rfl (Yl.f (y_lt rfl rfl) (by omega)) ?_
    refine wr_nil ?_
    refine w_false rfl ?_
    refine w_skip ?_
    refine w_reg ?_
    refine wr_y rfl (y_addI rfl rfl (by omega)) ?_
    refine wr_y rfl (y_move rfl) ?_
    refine wr_nil ?_
    exact ⟨i + 1, z + (((rdl ws i).length : Nat) : Int), ⟨(by omega), (by omega), (by rw [flat_take_succ hi0 (by omega), List.length_append, hz]; omega)⟩, (by omega), (Sub.cons rfl (Sub.cons rfl (Sub.cons rfl (Sub.cons rfl (Sub.cons rfl Sub.nil))))), fun _ h => h⟩
  ·
    refine w_exit ?_
    refine w_seq ?_
    refine w_reg ?_
    refine wr_y rfl (y_move rfl) ?_
    refine wr_a rfl (a_callF en101 rfl (Ct.fresh (fun w hw => growB_ct (by omega) (by omega)))) ?_
    rintro _ _ ⟨_, rfl, A_6, c_7, rfl, rfl⟩
    refine wr_y rfl (y_assign rfl) ?_
    refine wr_nil ?_
    refine w_seq ?_
    refine w_seq ?_
    refine w_reg ?_
    refine wr_y rfl (y_move rfl) ?_
    refine wr_y rfl (y_len Try.underlying30 rfl) ?_
    refine wr_y rfl (y_move rfl) ?_
    refine wr_nil ?_
    refine w_block ?_
    refine w_loop5 (fun (q : Int) (A1 : Option Addr) (n1 : Nat) (c1 : Nat) (acc : List Int) => [(6, .slice A1 n1 c1), (25, .slice A_ws ws.length c_ws), (26, .int .i64 ((ws.length : Nat) : Int)), (27, .int .i64 q)]) (fun (q : Int) (A1 : Option Addr) (n1 : Nat) (c1 : Nat) (acc : List Int) => [⟨5, 1, A1, n1, c1, ints .u8 acc, false⟩]) (fun (q : Int) (A1 : Option Addr) (n1 : Nat) (c1 : Nat) (acc : List Int) => (0 ≤ q) ∧ (q ≤ ws.length) ∧ (n1 = acc.length) ∧ (acc = (ws.take q.toNat).flatten)) (fun (q : Int) (A1 : Option Addr) (n1 : Nat) (c1 : Nat) (acc : List Int) => (ws.length - q).toNat) ?_ ?_
    ·
      exact ⟨0, A_6, 0, c_7, [], ⟨(by omega), (by omega), (rfl), (rfl)⟩, (Sub.cons rfl (Sub.cons rfl (Sub.cons rfl (Sub.cons rfl Sub.nil)))), fun _ h => h⟩
    intro q A1 n1 c1 acc ⟨hq0, hq1, hn1, hacc⟩
    have hal : acc.length ≤ ws.flatten.length := by rw [hacc]; exact flat_le _
    refine w_seq ?_
    refine w_reg ?_
    refine wr_y rfl (y_lt rfl rfl) ?_
    refine wr_nil ?_
    refine w_seq ?_
    refine w_if rfl (fun hc2 => ?_) (fun hc2 => ?_)
    ·
      have hfl2 := flat_le (ws := ws) (q + 1).toNat
      rw [flat_take_succ hq0 (by omega), List.length_append] at hfl2
      refine w_skip ?_
      refine w_seq ?_
      refine w_block ?_
      refine w_seq ?_
      refine w_reg ?_
      refine wr_y rfl (y_index1 Try.underlying30 sz22 rfl rfl (h_ws.c _) (by omega) (by omega)) ?_
      refine s_ws.elim (i := q) (by omega) (by omega) (fun A_8 c_9 hv_10 hr_11 hb_12 mhr_11 => ?_)
      refine wr_y rfl (y_ld Try.underlying22 rfl rfl rfl (h_ws.c _) hv_10) ?_
      refine wr_y rfl (y_assign rfl) ?_
      refine wr_nil ?_
      refine w_reg ?_
      refine wr_y rfl (y_move rfl) ?_
      refine wr_y rfl (y_move rfl) ?_
      refine wr_a rfl (a_appendI 0 rfl Try.underlying22 zb5 rfl rfl rfl (hr_11.c _) (by omega)) ?_
      rintro _ _ ⟨A_13, c_14, rfl, rfl⟩
      refine wr_rows (R1 := [⟨5, 1, A_13, (n1 + ((rdl ws q).length)), c_14, ints .u8 (acc ++ (rdl ws q)), false⟩]) rfl ?_
      refine wr_as (v := .slice A_13 (n1 + ((rdl ws q).length)) c_14) rfl ?_
      refine wr_y rfl (y_assign rfl) ?_
      refine wr_nil ?_
      refine w_reg ?_
      refine wr_y rfl (y_addI rfl rfl (by omega)) ?_
      refine wr_y rfl (y_move rfl) ?_
      refine wr_nil ?_
      exact ⟨q + 1, A_13, n1 + ((rdl ws q).length), c_14, acc ++ (rdl ws q), ⟨(by omega), (by omega), (by rw [List.length_append, hn1]), (by rw [flat_take_succ hq0 (by omega), hacc])⟩, (by omega), (Sub.cons rfl (Sub.cons rfl (Sub.cons rfl (Sub.cons rfl Sub.nil)))), fun _ h => h⟩
    ·
      refine w_exit ?_
      refine w_seq ?_
      refine w_reg ?_
      refine wr_y rfl (y_move rfl) ?_
      refine wr_y rfl (y_assign rfl) ?_
      refine wr_nil ?_
      refine w_retR (R1 := [⟨5, 1, A1, n1, c1, ints .u8 acc, false⟩]) (fun _ h => h.sel [0] (by decide) rfl) ?_
      refine ⟨_, rfl, ?_⟩
      rw [List.take_of_length_le (by omega)] at hacc
      subst hacc
      obtain rfl := hn1
      exact ⟨_, _, rfl, rfl⟩

end Go.Proofs.Ytdfcnalkdlifiaa
