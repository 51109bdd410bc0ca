/- Walks of Go functions, printed by a program of our own. -/
import Derived.Test.YtlagmdccneompaaG3
namespace Go.Proofs.Ytlagmdccneompaa
open Go Go.Eng Go.Pure
set_option linter.unusedVariables false
theorem rkL_of {s V : List Int} {h : Nat} (hl : V.length = s.length) (hV : ∀ j : Int, 0 ≤ j → j < s.length → rd V j = rkS s h j.toNat) : V = rkL s h :=
  list_ext_rd (hl.trans (rkL_len s h).symm) fun j h1 h2 => by rw [rd_rkL h1 (by omega)]; exact hV j h1 (by omega)
/-! whorl/double.ranks -/
set_option maxRecDepth 100000 in
theorem ranks1_ct {w : World} {A_s : Option Addr} {n_s c_s : Nat} {s : List Int} (h_s : Rd w A_s n_s c_s 1 (ints .i64 s)) (hN : s.length ≤ 100000) :
    Ct Try.prog 41 #[.slice A_s n_s c_s] w.heap.size w [] (fun v R' => ∃ A c, v = .slice A (s.length) c ∧ R' = [⟨3, 1, A, s.length, c, ints .i64 (rkL s 1), false⟩]) := by
  obtain rfl := h_s.lenI
  refine fn1 Try.func41 rfl rfl rfl ?_
  have m_s := h_s.max
  refine w_seq ?_
  refine w_reg ?_
  refine wr_y rfl (y_assign rfl) ?_
  refine wr_nil ?_
  refine w_seq ?_
  refine w_reg ?_
  refine wr_y rfl (y_move rfl) ?_
  refine wr_a rfl (a_callF en46 rfl (values_ct)) ?_
  rintro _ _ ⟨g_1, rfl, rfl⟩
  refine wr_a rfl (a_callF en45 rfl (Ct.fresh (fun w hw => sorted_ct ((h_s.c _) w hw) ((rdR 0 (r := ⟨22, 1, (some ⟨g_1, 0, none⟩), 1, 1, [.slice A_s s.length c_s], false⟩) rfl) w hw) (by omega)))) ?_
  rintro _ _ ⟨_, rfl, A_3, c_4, rfl, rfl⟩
  refine wr_y rfl (y_assign rfl) ?_
  refine wr_nil ?_
  refine w_seq ?_
  refine w_reg ?_
  refine wr_y rfl (y_move rfl) ?_
  refine wr_y rfl (y_len Try.underlying22 rfl) ?_
  refine wr_a rfl (a_makeN Try.underlying22 zb3 rfl rfl (by omega) (by omega) (by omega)) ?_
  rintro _ _ ⟨g_7, rfl, rfl⟩
  refine wr_rows (R1 := [⟨3, 1, (some ⟨g_7, 0, none⟩), s.length, s.length, ints .i64 (List.replicate s.length (0 : Int)), false⟩, ⟨3, 1, A_3, (sortL s).length, c_4, ints .i64 (sortL s), false⟩, ⟨22, 1, (some ⟨g_1, 0, none⟩), 1, 1, [.slice A_s s.length c_s], false⟩]) rfl ?_
  refine wr_as (v := .slice (some ⟨g_7, 0, none⟩) s.length s.length) rfl ?_
  refine wr_y rfl (y_assign rfl) ?_
  refine wr_nil ?_
  refine w_seq ?_
  refine w_seq ?_
  refine w_reg ?_
  refine wr_y rfl (y_move rfl) ?_
  refine wr_y rfl (y_len Try.underlying22 rfl) ?_
  refine wr_y rfl (y_move rfl) ?_
  refine wr_nil ?_
  refine w_block ?_
  refine w_loop2 (fun (i : Int) (V : List Int) => [(3, .slice A_3 ((sortL s).length) c_4), (4, .slice (some ⟨g_7, 0, none⟩) s.length s.length), (13, .slice A_s s.length c_s), (14, .int .i64 ((s.length : Nat) : Int)), (15, .int .i64 i)]) (fun (i : Int) (V : List Int) => [⟨3, 1, (some ⟨g_7, 0, none⟩), s.length, s.length, ints .i64 V, false⟩, ⟨3, 1, A_3, (sortL s).length, c_4, ints .i64 (sortL s), false⟩, ⟨22, 1, (some ⟨g_1, 0, none⟩), 1, 1, [.slice A_s s.length c_s], false⟩]) (fun (i : Int) (V : List Int) => (0 ≤ i) ∧ (i ≤ s.length) ∧ (V.length = s.length) ∧ (∀ j : Int, 0 ≤ j → j < i → rd V j = rkS s 1 j.toNat)) (fun (i : Int) (V : List Int) => (s.length - i).toNat) ?_ ?_
  ·
    exact ⟨0, List.replicate s.length (0 : Int), ⟨(by omega), (by omega), (by rw [List.length_replicate]), (fun j h1 h2 => by omega)⟩, (Sub.cons rfl (Sub.cons rfl (Sub.cons rfl (Sub.cons rfl (Sub.cons rfl Sub.nil))))), fun _ h => h⟩
  intro i V ⟨hi0, hi1, hVl, hV⟩
  refine w_seq ?_
  refine w_reg ?_
  refine wr_y rfl (y_lt rfl rfl) ?_
  refine wr_nil ?_
  refine w_seq ?_
  refine w_if rfl (fun hc1 => ?_) (fun hc1 => ?_)
  ·
    refine w_skip ?_
    refine w_seq ?_
    refine w_block ?_
    refine w_seq ?_
    refine w_reg ?_
    refine wr_y rfl (y_move rfl) ?_
    refine wr_y rfl (y_index1 Try.underlying22 sz3 rfl rfl (h_s.c _) (by omega) (by omega)) ?_
    refine wr_y rfl (y_ldI Try.underlying3 rfl rfl (h_s.c _) (by omega) (by omega)) ?_
    refine wr_y rfl (y_assign rfl) ?_
    refine wr_y rfl (y_assign rfl) ?_
    refine wr_nil ?_
    refine w_reg ?_
    refine wr_y rfl (y_move rfl) ?_
    refine wr_y rfl (y_move rfl) ?_
    refine wr_y rfl (y_move rfl) ?_
    refine wr_y rfl (y_move rfl) ?_
    refine wr_a rfl (a_callF en62 rfl (find_ints Try.slices_BinarySearch_int Try.slices_BinarySearch_int_empty 1 rfl (by rw [(sortL_perm s).length_eq]; omega) (sortL_sorted s))) ?_
    rintro _ _ ⟨rfl, rfl⟩
    refine wr_y rfl (y_move rfl) ?_
    refine wr_y rfl (y_extract rfl rfl) ?_
    refine wr_y rfl (y_extract rfl rfl) ?_
    refine wr_y rfl (y_index1 Try.underlying22 sz3 rfl rfl (rdr 0 rfl) (by omega) (by omega)) ?_
    refine wr_n (a_storeI 0 rfl sz3 rfl rfl (by omega) (by omega)) ?_
    rintro _ _ rfl
    refine wr_rows (R1 := [⟨3, 1, (some ⟨g_7, 0, none⟩), s.length, s.length, ints .i64 (upd V i (((sortL s).countP fun y => decide (y < rd s i) : Nat) : Int)), false⟩, ⟨3, 1, A_3, (sortL s).length, c_4, ints .i64 (sortL s), false⟩, ⟨22, 1, (some ⟨g_1, 0, none⟩), 1, 1, [.slice A_s s.length c_s], false⟩]) rfl ?_
    refine wr_nil ?_
    refine w_reg ?_
    refine wr_y rfl (y_addI rfl rfl (by omega)) ?_
    refine wr_y rfl (y_move rfl) ?_
    refine wr_nil ?_
    exact ⟨i + 1, upd V i (((sortL s).countP fun y => decide (y < rd s i) : Nat) : Int), ⟨(by omega), (by omega), (by rw [upd_length]; exact hVl), (fill_step (f := fun j => (rkS s 1 j.toNat : Int)) hi0 (by omega) hV (by rw [rk_one (by omega), (sortL_perm s).countP_eq]; rfl))⟩, (by omega), (Sub.cons rfl (Sub.cons rfl (Sub.cons rfl (Sub.cons rfl (Sub.cons rfl Sub.nil))))), fun _ h => h⟩
  ·
    refine w_exit ?_
    refine w_seq ?_
    refine w_reg ?_
    refine wr_y rfl (y_move rfl) ?_
    refine wr_y rfl (y_assign rfl) ?_
    refine wr_nil ?_
    refine w_retR (R1 := [⟨3, 1, (some ⟨g_7, 0, none⟩), s.length, s.length, ints .i64 V, false⟩]) (fun _ h => h.sel [0] (by decide) rfl) ?_
    refine ⟨_, rfl, ?_⟩
    obtain rfl : V = rkL s 1 := rkL_of hVl (fun j h1 h2 => hV j h1 (by omega))
    exact ⟨_, _, rfl, rfl⟩

/-! whorl/double.Ranks -/
set_option maxRecDepth 100000 in
set_option maxHeartbeats 400000 in
theorem ranks15_ct {w : World} {A_s : Option Addr} {n_s c_s : Nat} {s : List Int} {h : Int} (h_s : Rd w A_s n_s c_s 1 (ints .i64 s)) (h0 : 0 ≤ h) (hN : s.length ≤ 100000) :
    Ct Try.prog 25 #[.slice A_s n_s c_s, .int .i64 h] w.heap.size w [] (fun v R' => ∃ A c, v = .slice A (s.length) c ∧ R' = [⟨3, 1, A, s.length, c, ints .i64 (rkL s h.toNat), false⟩]) := by
  obtain rfl := h_s.lenI
  refine fn1 Try.func25 rfl rfl rfl ?_
  have m_s := h_s.max
  refine w_seq ?_
  refine w_reg ?_
  refine wr_y rfl (y_assign rfl) ?_
  refine wr_nil ?_
  refine w_seq ?_
  refine w_seq ?_
  refine w_reg ?_
  refine wr_y rfl (y_move rfl) ?_
  refine wr_y rfl (y_lt rfl rfl) ?_
  refine wr_y rfl (y_move rfl) ?_
  refine wr_mid 4 [(0, .slice A_s s.length c_s), (1, .int .i64 h), (14, .bool (decide ((h < 0) ∨ (100000 < ((s.length : Nat) : Int)))))] [] ?_ ?_
  ·
    refine wr_case 10 rfl (fun hc1 => ?_) (fun hc1 => ?_)
    ·
      refine wr_no rfl rfl rfl rfl ?_
      refine wr_no rfl rfl rfl rfl ?_
      refine wr_no rfl rfl rfl rfl ?_
      refine wr_y rfl (y_pickT rfl rfl) ?_
      refine wr_nil ?_
      exact ⟨(Sub.cons rfl (Sub.cons rfl (Sub.to rfl (mb_t (by first | omega | exact ⟨fun h => ⟨(by assumption), h⟩, fun h => h.2⟩ | simp [*])) Sub.nil))), fun _ h => h⟩
    ·
      refine wr_yes rfl rfl ?_
      refine wr_y rfl (y_move rfl) ?_
      refine wr_yes rfl rfl ?_
      refine wr_y rfl (y_len Try.underlying22 rfl) ?_
      refine wr_yes rfl rfl ?_
      refine wr_y rfl (y_gt rfl rfl) ?_
      refine wr_y rfl (y_pickF rfl rfl) ?_
      refine wr_nil ?_
      exact ⟨(Sub.cons rfl (Sub.cons rfl (Sub.to rfl (mb (by first | omega | exact ⟨fun h => ⟨(by assumption), h⟩, fun h => h.2⟩ | simp [*])) Sub.nil))), fun _ h => h⟩
  refine wr_setF 14 rfl (by omega) ?_
  refine wr_nil ?_
  refine w_false rfl ?_
  refine w_skip ?_
  refine w_seq ?_
  refine w_reg ?_
  refine wr_y rfl (y_move rfl) ?_
  refine wr_y rfl (y_len Try.underlying22 rfl) ?_
  refine wr_a rfl (a_makeN Try.underlying22 zb3 rfl rfl (by omega) (by omega) (by omega)) ?_
  rintro _ _ ⟨g_2, rfl, rfl⟩
  refine wr_rows (R1 := [⟨3, 1, (some ⟨g_2, 0, none⟩), s.length, s.length, ints .i64 (List.replicate s.length (0 : Int)), false⟩]) rfl ?_
  refine wr_as (v := .slice (some ⟨g_2, 0, none⟩) s.length s.length) rfl ?_
  refine wr_y rfl (y_assign rfl) ?_
  refine wr_nil ?_
  refine w_seq ?_
  refine w_seq ?_
  refine w_reg ?_
  refine wr_y rfl (y_move rfl) ?_
  refine wr_y rfl (y_eq rfl rfl) ?_
  refine wr_nil ?_
  refine w_if rfl (fun hc2 => ?_) (fun hc2 => ?_)
  ·
    refine w_seq ?_
    refine w_reg ?_
    refine wr_y rfl (y_move rfl) ?_
    refine wr_y rfl (y_assign rfl) ?_
    refine wr_nil ?_
    refine w_retR (R1 := [⟨3, 1, (some ⟨g_2, 0, none⟩), s.length, s.length, ints .i64 (List.replicate s.length (0 : Int)), false⟩]) (fun _ h => h.sel [0] (by decide) rfl) ?_
    refine ⟨_, rfl, ?_⟩
    have e : h.toNat = 0 := by omega
    rw [e, rkL_zero]
    exact ⟨_, _, rfl, rfl⟩
  ·
    refine w_skip ?_
    refine w_seq ?_
    refine w_reg ?_
    refine wr_y rfl (y_move rfl) ?_
    refine wr_a rfl (a_callF en41 rfl (Ct.fresh (fun w hw => ranks1_ct ((h_s.c _) w hw) (by first | assumption | omega | decide)))) ?_
    rintro _ _ ⟨_, rfl, A_4, c_5, rfl, rfl⟩
    refine wr_y rfl (y_assign rfl) ?_
    refine wr_nil ?_
    refine w_seq ?_
    refine w_reg ?_
    refine wr_y rfl (y_move rfl) ?_
    refine wr_y rfl (y_move rfl) ?_
    refine wr_y rfl (y_len Try.underlying22 rfl) ?_
    refine wr_y rfl (y_min rfl rfl) ?_
    refine wr_y rfl (y_assign rfl) ?_
    refine wr_nil ?_
    refine w_seq ?_
    refine w_seq ?_
    refine w_reg ?_
    refine wr_y rfl (y_assign rfl) ?_
    refine wr_nil ?_
    refine w_block ?_
    refine w_loop4 (fun (n : Int) (A1 : Option Addr) (c1 : Nat) (L : List Int) => [(1, .int .i64 (min h ((s.length : Nat) : Int))), (5, .slice A1 s.length c1), (6, .int .i64 n)]) (fun (n : Int) (A1 : Option Addr) (c1 : Nat) (L : List Int) => [⟨3, 1, A1, s.length, c1, ints .i64 L, false⟩, ⟨3, 1, (some ⟨g_2, 0, none⟩), s.length, s.length, ints .i64 (List.replicate s.length (0 : Int)), false⟩]) (fun (n : Int) (A1 : Option Addr) (c1 : Nat) (L : List Int) => (1 ≤ n) ∧ (n = 1 ∨ n ≤ min h (s.length : Int)) ∧ (L = rkL s n.toNat)) (fun (n : Int) (A1 : Option Addr) (c1 : Nat) (L : List Int) => (min h (s.length : Int) - n).toNat) ?_ ?_
    ·
      exact ⟨1, A_4, c_5, rkL s 1, ⟨(by omega), (by omega), (rfl)⟩, (Sub.cons rfl (Sub.cons rfl (Sub.cons rfl Sub.nil))), fun _ h => h⟩
    intro n A1 c1 L ⟨hn1, hn2, hL⟩
    refine w_seq ?_
    refine w_seq ?_
    refine w_reg ?_
    refine wr_y rfl (y_move rfl) ?_
    refine wr_y rfl (y_move rfl) ?_
    refine wr_y rfl (y_lt rfl rfl) ?_
    refine wr_nil ?_
    refine w_if rfl (fun hc3 => ?_) (fun hc3 => ?_)
    ·
      refine w_skip ?_
      refine w_block ?_
      refine w_seq ?_
      refine w_reg ?_
      refine wr_y rfl (y_move rfl) ?_
      refine wr_y rfl (y_move rfl) ?_
      refine wr_y rfl (y_move rfl) ?_
      refine wr_y rfl (y_subI rfl rfl (by omega)) ?_
      refine wr_y rfl (y_min rfl rfl) ?_
      refine wr_y rfl (y_assign rfl) ?_
      refine wr_nil ?_
      refine w_seq ?_
      refine w_reg ?_
      refine wr_y rfl (y_move rfl) ?_
      refine wr_y rfl (y_move rfl) ?_
      refine wr_a rfl (a_callF en42 rfl (Ct.fresh (fun w hw => joined_ct (s := s) (n := n.toNat) (b := (min n (min h (s.length : Int) - n)).toNat) ((rdr 0 rfl) w hw) hL (by omega) (by omega) (by omega) ⟨hN, by omega⟩))) ?_
      rintro _ _ ⟨_, rfl, A_8, c_9, A_10, c_11, rfl, rfl⟩
      refine wr_y rfl (y_move rfl) ?_
      refine wr_y rfl (y_extract rfl rfl) ?_
      refine wr_y rfl (y_extract rfl rfl) ?_
      refine wr_y rfl (y_assign rfl) ?_
      refine wr_nil ?_
      refine w_reg ?_
      refine wr_y rfl (y_move rfl) ?_
      refine wr_y rfl (y_move rfl) ?_
      refine wr_y rfl (y_addI rfl rfl (by omega)) ?_
      refine wr_y rfl (y_assign rfl) ?_
      refine wr_nil ?_
      exact ⟨n + (min n ((min h ((s.length : Nat) : Int)) - n)), A_8, c_9, rkL s (n.toNat + (min n (min h (s.length : Int) - n)).toNat), ⟨(by omega), (by omega), (by congr 1; omega)⟩, (by omega), (Sub.cons rfl (Sub.cons rfl (Sub.cons rfl Sub.nil))), fun _ h => h.sel [0, 3] (by decide) rfl⟩
    ·
      refine w_exit ?_
      refine w_seq ?_
      refine w_reg ?_
      refine wr_y rfl (y_move rfl) ?_
      refine wr_y rfl (y_assign rfl) ?_
      refine wr_nil ?_
      refine w_retR (R1 := [⟨3, 1, A1, s.length, c1, ints .i64 L, false⟩]) (fun _ h => h.sel [0] (by decide) rfl) ?_
      refine ⟨_, rfl, ?_⟩
      have e : rkL s n.toNat = rkL s h.toNat := by
        rcases Nat.eq_zero_or_pos s.length with z | z
        · exact rkL_none z _ _
        · rcases Int.lt_or_le h s.length with a | a
          · rw [show n.toNat = h.toNat by omega]
          · rw [rk_cap (h := h.toNat) (by omega), show n.toNat = s.length by omega]
      rw [hL, e]
      exact ⟨_, _, rfl, rfl⟩

/-! whorl/double.Ranks -/
set_option maxRecDepth 100000 in
theorem ranks15neg_ct {w : World} {A_s : Option Addr} {n_s c_s : Nat} {s : List Int} {h : Int} (h_s : Rd w A_s n_s c_s 1 (ints .i64 s)) (hneg : h < 0 ∨ 100000 < s.length) :
    Ct Try.prog 25 #[.slice A_s n_s c_s, .int .i64 h] w.heap.size w [] (fun v R' => v = .slice none 0 0) := by
  obtain rfl := h_s.lenI
  refine fn1 Try.func25 rfl rfl rfl ?_
  have m_s := h_s.max
  refine w_seq ?_
  refine w_reg ?_
  refine wr_y rfl (y_assign rfl) ?_
  refine wr_nil ?_
  refine w_seq ?_
  refine w_seq ?_
  refine w_reg ?_
  refine wr_y rfl (y_move rfl) ?_
  refine wr_y rfl (y_lt rfl rfl) ?_
  refine wr_y rfl (y_move rfl) ?_
  refine wr_mid 4 [(0, .slice A_s s.length c_s), (1, .int .i64 h), (14, .bool (decide ((h < 0) ∨ (100000 < ((s.length : Nat) : Int)))))] [] ?_ ?_
  ·
    refine wr_case 10 rfl (fun hc1 => ?_) (fun hc1 => ?_)
    ·
      refine wr_no rfl rfl rfl rfl ?_
      refine wr_no rfl rfl rfl rfl ?_
      refine wr_no rfl rfl rfl rfl ?_
      refine wr_y rfl (y_pickT rfl rfl) ?_
      refine wr_nil ?_
      exact ⟨(Sub.cons rfl (Sub.cons rfl (Sub.to rfl (mb_t (by first | omega | exact ⟨fun h => ⟨(by assumption), h⟩, fun h => h.2⟩ | simp [*])) Sub.nil))), fun _ h => h⟩
    ·
      refine wr_yes rfl rfl ?_
      refine wr_y rfl (y_move rfl) ?_
      refine wr_yes rfl rfl ?_
      refine wr_y rfl (y_len Try.underlying22 rfl) ?_
      refine wr_yes rfl rfl ?_
      refine wr_y rfl (y_gt rfl rfl) ?_
      refine wr_y rfl (y_pickF rfl rfl) ?_
      refine wr_nil ?_
      exact ⟨(Sub.cons rfl (Sub.cons rfl (Sub.to rfl (mb (by first | omega | exact ⟨fun h => ⟨(by assumption), h⟩, fun h => h.2⟩ | simp [*])) Sub.nil))), fun _ h => h⟩
  refine wr_setT 14 rfl (by omega) ?_
  refine wr_nil ?_
  refine w_true rfl ?_
  refine w_seq ?_
  refine w_reg ?_
  refine wr_y rfl (y_assign rfl) ?_
  refine wr_nil ?_
  refine w_ret ?_
  refine ⟨_, rfl, ?_⟩
  rfl

/-! whorl/double.Ints -/
set_option maxRecDepth 100000 in
theorem ints15_ct {w : World} {A_s : Option Addr} {n_s c_s : Nat} {s : List Int} {k : Int} (h_s : Rd w A_s n_s c_s 1 (ints .i64 s)) (hok : (0 ≤ k ∧ k ≤ 1048576) ∧ ∀ x ∈ s, 0 ≤ x ∧ x < k) (hN : s.length ≤ 100000) :
    Ct Try.prog 19 #[.slice A_s n_s c_s, .int .i64 k] w.heap.size w [] (fun v R' => ∃ (out : List Int) (A : Option Addr) (c : Nat), v = .tuple #[.slice A s.length c, .int .i64 0] ∧ out.length = s.length ∧ (∀ q : Nat, q < s.length → rd out (rkS s s.length q) = q) ∧ R' = [⟨3, 1, A, s.length, c, ints .i64 out, false⟩]) := by
  obtain rfl := h_s.lenI
  refine fn2 Try.func19 rfl rfl rfl ?_
  have m_s := h_s.max
  refine w_seq ?_
  refine w_reg ?_
  refine wr_y rfl (y_assign rfl) ?_
  refine wr_y rfl (y_assign rfl) ?_
  refine wr_nil ?_
  refine w_seq ?_
  refine w_seq ?_
  refine w_reg ?_
  refine wr_y rfl (y_move rfl) ?_
  refine wr_y rfl (y_len Try.underlying22 rfl) ?_
  refine wr_y rfl (Yl.f (y_gt rfl rfl) (by omega)) ?_
  refine wr_nil ?_
  refine w_false rfl ?_
  refine w_skip ?_
  refine w_seq ?_
  refine w_seq ?_
  refine w_reg ?_
  refine wr_y rfl (y_move rfl) ?_
  refine wr_y rfl (y_move rfl) ?_
  refine wr_a rfl (a_callF en38 rfl (Ct.fresh (fun w hw => countsOk_ct ((h_s.c _) w hw) (by first | assumption | omega | decide)))) ?_
  rintro _ _ ⟨_, rfl, A_1, c_2, rfl, rfl⟩
  refine wr_y rfl (y_move rfl) ?_
  refine wr_y rfl (y_extract rfl rfl) ?_
  refine wr_y rfl (y_extract rfl rfl) ?_
  refine wr_y rfl (y_assign rfl) ?_
  refine wr_y rfl (y_assign rfl) ?_
  refine wr_nil ?_
  refine w_seq ?_
  refine w_reg ?_
  refine wr_y rfl (y_move rfl) ?_
  refine wr_y rfl (y_not rfl) ?_
  refine wr_nil ?_
  refine w_false rfl ?_
  refine w_skip ?_
  refine w_seq ?_
  refine w_reg ?_
  refine wr_y rfl (y_move rfl) ?_
  refine wr_y rfl (y_len Try.underlying22 rfl) ?_
  refine wr_a rfl (a_makeN Try.underlying22 zb3 rfl rfl (by omega) (by omega) (by omega)) ?_
  rintro _ _ ⟨g_4, rfl, rfl⟩
  refine wr_rows (R1 := [⟨3, 1, (some ⟨g_4, 0, none⟩), s.length, s.length, ints .i64 (List.replicate s.length (0 : Int)), false⟩, ⟨3, 1, A_1, ((k).toNat), c_2, ints .i64 (cntV s k), false⟩]) rfl ?_
  refine wr_as (v := .slice (some ⟨g_4, 0, none⟩) s.length s.length) rfl ?_
  refine wr_y rfl (y_assign rfl) ?_
  refine wr_nil ?_
  refine w_seq ?_
  refine w_seq ?_
  refine w_reg ?_
  refine wr_y rfl (y_move rfl) ?_
  refine wr_y rfl (y_move rfl) ?_
  refine wr_y rfl (y_len Try.underlying22 rfl) ?_
  refine wr_a rfl (a_callF en25 rfl (Ct.fresh (fun w hw => ranks15_ct ((h_s.c _) w hw) (by omega) (by first | assumption | omega | decide)))) ?_
  rintro _ _ ⟨_, rfl, A_5, c_6, rfl, rfl⟩
  refine wr_y rfl (y_len Try.underlying22 rfl) ?_
  refine wr_y rfl (y_move rfl) ?_
  refine wr_nil ?_
  refine w_block ?_
  refine w_loop2 (fun (i : Int) (V : List Int) => [(8, .slice (some ⟨g_4, 0, none⟩) s.length s.length), (28, .slice A_5 ((s).length) c_6), (29, .int .i64 (((s).length : Nat) : Int)), (30, .int .i64 i)]) (fun (i : Int) (V : List Int) => [⟨3, 1, A_5, ((s).length), c_6, ints .i64 (rkL s (((s.length : Nat) : Int)).toNat), false⟩, ⟨3, 1, (some ⟨g_4, 0, none⟩), s.length, s.length, ints .i64 V, false⟩, ⟨3, 1, A_1, ((k).toNat), c_2, ints .i64 (cntV s k), false⟩]) (fun (i : Int) (V : List Int) => (0 ≤ i) ∧ (i ≤ s.length) ∧ (V.length = s.length) ∧ (∀ q : Nat, (q : Int) < i → rd V (rkS s s.length q) = q)) (fun (i : Int) (V : List Int) => (s.length - i).toNat) ?_ ?_
  ·
    exact ⟨0, List.replicate s.length (0 : Int), ⟨(by omega), (by omega), (by rw [List.length_replicate]), (fun q h => by omega)⟩, (Sub.cons rfl (Sub.cons rfl (Sub.cons rfl (Sub.cons rfl Sub.nil)))), fun _ h => h⟩
  intro i V ⟨hi0, hi1, hVl, hV⟩
  refine w_seq ?_
  refine w_reg ?_
  refine wr_y rfl (y_lt rfl rfl) ?_
  refine wr_nil ?_
  refine w_seq ?_
  refine w_if rfl (fun hc1 => ?_) (fun hc1 => ?_)
  ·
    have hr : rd (rkL s ((s.length : Nat) : Int).toNat) i = (rkS s s.length i.toNat : Int) := by rw [Int.toNat_natCast]; exact rd_rkL hi0 (by omega)
    have ht := rkS_top (s := s) (h := s.length) (i := i.toNat) (by omega)
    refine w_skip ?_
    refine w_seq ?_
    refine w_block ?_
    refine w_seq ?_
    refine w_reg ?_
    refine wr_y rfl (y_move rfl) ?_
    refine wr_y rfl (y_index1 Try.underlying22 sz3 rfl rfl (rdr 0 rfl) (by omega) (by omega)) ?_
    refine wr_y rfl (y_ldI Try.underlying3 rfl rfl (rdr 0 rfl) (by omega) (by omega)) ?_
    refine wr_y rfl (y_assign rfl) ?_
    refine wr_y rfl (y_assign rfl) ?_
    refine wr_nil ?_
    refine w_reg ?_
    refine wr_y rfl (y_move rfl) ?_
    refine wr_y rfl (y_move rfl) ?_
    refine wr_y rfl (y_move rfl) ?_
    refine wr_y rfl (y_index1 Try.underlying22 sz3 rfl rfl (rdr 1 rfl) (by rw [hr]; omega) (by rw [hr]; omega)) ?_
    refine wr_n (a_storeI 1 rfl sz3 rfl rfl (by rw [hr]; omega) (by rw [hr]; omega)) ?_
    rintro _ _ rfl
    refine wr_rows (R1 := [⟨3, 1, A_5, ((s).length), c_6, ints .i64 (rkL s (((s.length : Nat) : Int)).toNat), false⟩, ⟨3, 1, (some ⟨g_4, 0, none⟩), s.length, s.length, ints .i64 (upd V (rd (rkL s (((s.length : Nat) : Int)).toNat) i) i), false⟩, ⟨3, 1, A_1, ((k).toNat), c_2, ints .i64 (cntV s k), false⟩]) rfl ?_
    refine wr_nil ?_
    refine w_reg ?_
    refine wr_y rfl (y_addI rfl rfl (by omega)) ?_
    refine wr_y rfl (y_move rfl) ?_
    refine wr_nil ?_
    exact ⟨i + 1, upd V (rd (rkL s (((s.length : Nat) : Int)).toNat) i) i, ⟨(by omega), (by omega), (by rw [upd_length]; exact hVl), (fun q h => by
        rw [hr]
        have := places_step (m := i.toNat) (by omega) hVl (fun q h => hV q (by omega)) q (by omega)
        rwa [show ((i.toNat : Nat) : Int) = i by omega] at this)⟩, (by omega), (Sub.cons rfl (Sub.cons rfl (Sub.cons rfl (Sub.cons rfl Sub.nil)))), fun _ h => h⟩
  ·
    refine w_exit ?_
    refine w_seq ?_
    refine w_reg ?_
    refine wr_y rfl (y_move rfl) ?_
    refine wr_y rfl (y_assign rfl) ?_
    refine wr_y rfl (y_assign rfl) ?_
    refine wr_nil ?_
    refine w_retR (R1 := [⟨3, 1, (some ⟨g_4, 0, none⟩), s.length, s.length, ints .i64 V, false⟩]) (fun _ h => h.sel [1] (by decide) rfl) ?_
    refine ⟨_, _, rfl, rfl, ?_⟩
    exact ⟨V, _, _, rfl, hVl, fun q h => hV q (by omega), rfl⟩

/-! whorl/double.Ints -/
set_option maxRecDepth 100000 in
theorem ints15no_ct {w : World} {A_s : Option Addr} {n_s c_s : Nat} {s : List Int} {k : Int} (h_s : Rd w A_s n_s c_s 1 (ints .i64 s)) (hno : ¬ ((0 ≤ k ∧ k ≤ 1048576) ∧ ∀ x ∈ s, 0 ≤ x ∧ x < k)) (hN : s.length ≤ 100000) :
    Ct Try.prog 19 #[.slice A_s n_s c_s, .int .i64 k] w.heap.size w [] (fun v R' => v = .tuple #[.slice none 0 0, .int .i64 1]) := by
  obtain rfl := h_s.lenI
  refine fn2 Try.func19 rfl rfl rfl ?_
  have m_s := h_s.max
  refine w_seq ?_
  refine w_reg ?_
  refine wr_y rfl (y_assign rfl) ?_
  refine wr_y rfl (y_assign rfl) ?_
  refine wr_nil ?_
  refine w_seq ?_
  refine w_seq ?_
  refine w_reg ?_
  refine wr_y rfl (y_move rfl) ?_
  refine wr_y rfl (y_len Try.underlying22 rfl) ?_
  refine wr_y rfl (Yl.f (y_gt rfl rfl) (by omega)) ?_
  refine wr_nil ?_
  refine w_false rfl ?_
  refine w_skip ?_
  refine w_seq ?_
  refine w_seq ?_
  refine w_reg ?_
  refine wr_y rfl (y_move rfl) ?_
  refine wr_y rfl (y_move rfl) ?_
  refine wr_a rfl (a_callF en38 rfl (Ct.quiet (fun w hw => countsNo_ct ((h_s.c _) w hw) hno))) ?_
  rintro _ _ ⟨rfl, rfl⟩
  refine wr_y rfl (y_move rfl) ?_
  refine wr_y rfl (y_extract rfl rfl) ?_
  refine wr_y rfl (y_extract rfl rfl) ?_
  refine wr_y rfl (y_assign rfl) ?_
  refine wr_y rfl (y_assign rfl) ?_
  refine wr_nil ?_
  refine w_seq ?_
  refine w_reg ?_
  refine wr_y rfl (y_move rfl) ?_
  refine wr_y rfl (y_not rfl) ?_
  refine wr_nil ?_
  refine w_true rfl ?_
  refine w_seq ?_
  refine w_reg ?_
  refine wr_y rfl (y_assign rfl) ?_
  refine wr_y rfl (y_assign rfl) ?_
  refine wr_nil ?_
  refine w_ret ?_
  refine ⟨_, _, rfl, rfl, ?_⟩
  rfl

/-! whorl/double.Ints -/
set_option maxRecDepth 100000 in
theorem ints15long_ct {w : World} {A_s : Option Addr} {n_s c_s : Nat} {s : List Int} {k : Int} (h_s : Rd w A_s n_s c_s 1 (ints .i64 s)) (hN : 100000 < s.length) :
    Ct Try.prog 19 #[.slice A_s n_s c_s, .int .i64 k] w.heap.size w [] (fun v R' => v = .tuple #[.slice none 0 0, .int .i64 2]) := by
  obtain rfl := h_s.lenI
  refine fn2 Try.func19 rfl rfl rfl ?_
  have m_s := h_s.max
  refine w_seq ?_
  refine w_reg ?_
  refine wr_y rfl (y_assign rfl) ?_
  refine wr_y rfl (y_assign rfl) ?_
  refine wr_nil ?_
  refine w_seq ?_
  refine w_seq ?_
  refine w_reg ?_
  refine wr_y rfl (y_move rfl) ?_
  refine wr_y rfl (y_len Try.underlying22 rfl) ?_
  refine wr_y rfl (Yl.t (y_gt rfl rfl) (by omega)) ?_
  refine wr_nil ?_
  refine w_true rfl ?_
  refine w_seq ?_
  refine w_reg ?_
  refine wr_y rfl (y_assign rfl) ?_
  refine wr_y rfl (y_assign rfl) ?_
  refine wr_nil ?_
  refine w_ret ?_
  refine ⟨_, _, rfl, rfl, ?_⟩
  rfl

/-! whorl/double.Bytes -/
set_option maxRecDepth 100000 in
theorem bytes15_ct {w : World} {A_u : Option Addr} {n_u c_u : Nat} {u : List Int} (h_u : Rd w A_u n_u c_u 1 (ints .u8 u)) (bh_u : ByteL u) (hN : u.length ≤ 100000) :
    Ct Try.prog 23 #[.slice A_u n_u c_u] w.heap.size w [] (fun v R' => ∃ (out : List Int) (A : Option Addr) (c : Nat), v = .tuple #[.slice A u.length c, .int .i64 0] ∧ out.length = u.length ∧ (∀ q : Nat, q < u.length → rd out (rkS u u.length q) = q) ∧ R' = [⟨3, 1, A, u.length, c, ints .i64 out, false⟩]) := by
  obtain rfl := h_u.lenI
  refine fn2 Try.func23 rfl rfl rfl ?_
  have m_u := h_u.max
  refine w_seq ?_
  refine w_reg ?_
  refine wr_y rfl (y_assign rfl) ?_
  refine wr_y rfl (y_assign rfl) ?_
  refine wr_nil ?_
  refine w_seq ?_
  refine w_seq ?_
  refine w_reg ?_
  refine wr_y rfl (y_move rfl) ?_
  refine wr_y rfl (y_len Try.underlying31 rfl) ?_
  refine wr_y rfl (Yl.f (y_gt rfl rfl) (by omega)) ?_
  refine wr_nil ?_
  refine w_false rfl ?_
  refine w_skip ?_
  refine w_seq ?_
  refine w_reg ?_
  refine wr_y rfl (y_move rfl) ?_
  refine wr_y rfl (y_len Try.underlying31 rfl) ?_
  refine wr_a rfl (a_makeN Try.underlying22 zb3 rfl rfl (by omega) (by omega) (by omega)) ?_
  rintro _ _ ⟨g_1, rfl, rfl⟩
  refine wr_rows (R1 := [⟨3, 1, (some ⟨g_1, 0, none⟩), u.length, u.length, ints .i64 (List.replicate u.length (0 : Int)), false⟩]) rfl ?_
  refine wr_as (v := .slice (some ⟨g_1, 0, none⟩) u.length u.length) rfl ?_
  refine wr_y rfl (y_assign rfl) ?_
  refine wr_nil ?_
  refine w_seq ?_
  refine w_seq ?_
  refine w_reg ?_
  refine wr_y rfl (y_move rfl) ?_
  refine wr_y rfl (y_len Try.underlying31 rfl) ?_
  refine wr_y rfl (y_move rfl) ?_
  refine wr_nil ?_
  refine w_block ?_
  refine w_loop2 (fun (i : Int) (V : List Int) => [(4, .slice (some ⟨g_1, 0, none⟩) u.length u.length), (13, .slice A_u u.length c_u), (14, .int .i64 ((u.length : Nat) : Int)), (15, .int .i64 i)]) (fun (i : Int) (V : List Int) => [⟨3, 1, (some ⟨g_1, 0, none⟩), u.length, u.length, ints .i64 V, false⟩]) (fun (i : Int) (V : List Int) => (0 ≤ i) ∧ (i ≤ u.length) ∧ (V.length = u.length) ∧ (∀ j : Int, 0 ≤ j → j < i → rd V j = rd u j)) (fun (i : Int) (V : List Int) => (u.length - i).toNat) ?_ ?_
  ·
    exact ⟨0, List.replicate u.length (0 : Int), ⟨(by omega), (by omega), (by rw [List.length_replicate]), (fun j h1 h2 => by omega)⟩, (Sub.cons rfl (Sub.cons rfl (Sub.cons rfl (Sub.cons rfl Sub.nil)))), fun _ h => h⟩
  intro i V ⟨hi0, hi1, hVl, hV⟩
  refine w_seq ?_
  refine w_reg ?_
  refine wr_y rfl (y_lt rfl rfl) ?_
  refine wr_nil ?_
  refine w_seq ?_
  refine w_if rfl (fun hc1 => ?_) (fun hc1 => ?_)
  ·
    have hbi := bh_u.rd i
    refine w_skip ?_
    refine w_seq ?_
    refine w_block ?_
    refine w_seq ?_
    refine w_reg ?_
    refine wr_y rfl (y_move rfl) ?_
    refine wr_y rfl (y_index1 Try.underlying31 sz5 rfl rfl (h_u.c _) (by omega) (by omega)) ?_
    refine wr_y rfl (y_ldI Try.underlying5 rfl rfl (h_u.c _) (by omega) (by omega)) ?_
    refine wr_y rfl (y_assign rfl) ?_
    refine wr_y rfl (y_assign rfl) ?_
    refine wr_nil ?_
    refine w_reg ?_
    refine wr_y rfl (y_move rfl) ?_
    refine wr_y rfl (y_move rfl) ?_
    refine wr_y rfl (y_move rfl) ?_
    refine wr_y rfl (y_convI Try.underlying5 Try.underlying3 rfl (by omega)) ?_
    refine wr_y rfl (y_index1 Try.underlying22 sz3 rfl rfl (rdr 0 rfl) (by omega) (by omega)) ?_
    refine wr_n (a_storeI 0 rfl sz3 rfl rfl (by omega) (by omega)) ?_
    rintro _ _ rfl
    refine wr_rows (R1 := [⟨3, 1, (some ⟨g_1, 0, none⟩), u.length, u.length, ints .i64 (upd V i (rd u i)), false⟩]) rfl ?_
    refine wr_nil ?_
    refine w_reg ?_
    refine wr_y rfl (y_addI rfl rfl (by omega)) ?_
    refine wr_y rfl (y_move rfl) ?_
    refine wr_nil ?_
    exact ⟨i + 1, upd V i (rd u i), ⟨(by omega), (by omega), (by rw [upd_length]; exact hVl), (fill_step (f := fun j => rd u j) hi0 (by omega) hV rfl)⟩, (by omega), (Sub.cons rfl (Sub.cons rfl (Sub.cons rfl (Sub.cons rfl Sub.nil)))), fun _ h => h⟩
  ·
    have hVu : V = u := list_ext_rd hVl (fun j h1 h2 => hV j h1 (by omega))
    refine w_exit ?_
    refine w_seq ?_
    refine w_reg ?_
    refine wr_y rfl (y_move rfl) ?_
    refine wr_a rfl (a_callF en19 rfl (Ct.fresh (fun w hw => ints15_ct ((rdr 0 rfl) w hw) ⟨by omega, fun x hx => by rw [hVu] at hx; have := bh_u x hx; omega⟩ (by omega)))) ?_
    rintro _ _ ⟨_, rfl, o1, A_2, c_3, rfl, hl_o1, hq_o1, rfl⟩
    refine wr_y rfl (y_extract rfl rfl) ?_
    refine wr_y rfl (y_extract rfl rfl) ?_
    refine wr_y rfl (y_assign rfl) ?_
    refine wr_y rfl (y_assign rfl) ?_
    refine wr_nil ?_
    refine w_retR (R1 := [⟨3, 1, A_2, V.length, c_3, ints .i64 o1, false⟩]) (fun _ h => h.sel [0] (by decide) rfl) ?_
    refine ⟨_, _, rfl, rfl, ?_⟩
    subst hVu
    exact ⟨o1, _, _, rfl, hl_o1, hq_o1, rfl⟩

/-! whorl/double.Bytes -/
set_option maxRecDepth 100000 in
theorem bytes15long_ct {w : World} {A_u : Option Addr} {n_u c_u : Nat} {u : List Int} (h_u : Rd w A_u n_u c_u 1 (ints .u8 u)) (hN : 100000 < u.length) :
    Ct Try.prog 23 #[.slice A_u n_u c_u] w.heap.size w [] (fun v R' => v = .tuple #[.slice none 0 0, .int .i64 2]) := by
  obtain rfl := h_u.lenI
  refine fn2 Try.func23 rfl rfl rfl ?_
  have m_u := h_u.max
  refine w_seq ?_
  refine w_reg ?_
  refine wr_y rfl (y_assign rfl) ?_
  refine wr_y rfl (y_assign rfl) ?_
  refine wr_nil ?_
  refine w_seq ?_
  refine w_seq ?_
  refine w_reg ?_
  refine wr_y rfl (y_move rfl) ?_
  refine wr_y rfl (y_len Try.underlying31 rfl) ?_
  refine wr_y rfl (Yl.t (y_gt rfl rfl) (by omega)) ?_
  refine wr_nil ?_
  refine w_true rfl ?_
  refine w_seq ?_
  refine w_reg ?_
  refine wr_y rfl (y_assign rfl) ?_
  refine wr_y rfl (y_assign rfl) ?_
  refine wr_nil ?_
  refine w_ret ?_
  refine ⟨_, _, rfl, rfl, ?_⟩
  rfl

end Go.Proofs.Ytlagmdccneompaa
