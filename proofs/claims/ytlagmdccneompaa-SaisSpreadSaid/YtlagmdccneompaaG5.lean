/- Walks of Go functions, printed by a program of our own. -/
import Derived.Test.YtlagmdccneompaaG4
import Derived.Test.YtlagmdccneompaaE13
namespace Go.Proofs.Ytlagmdccneompaa
open Go Go.Eng Go.Pure
set_option linter.unusedVariables false
/-! whorl/whorlref11.Words -/
set_option maxRecDepth 100000 in
theorem words11_ct {w : World} {A_u : Option Addr} {n_u c_u : Nat} {u : List Int} {A_t : Option Addr} {n_t c_t : Nat} {t : List Int} (h_u : Rd w A_u n_u c_u 1 (ints .i64 u)) (h_t : Rd w A_t n_t c_t 1 (ints .i64 t)) :
    Ct Try.prog 43 #[.slice A_u n_u c_u, .slice A_t n_t c_t] w.heap.size w [] (fun v R' => v = .int .i64 (cmpL u t)) := by
  obtain rfl := h_u.lenI
  obtain rfl := h_t.lenI
  refine fn1 Try.func43 rfl rfl rfl ?_
  have m_u := h_u.max
  have m_t := h_t.max
  refine w_seq ?_
  refine w_reg ?_
  refine wr_y rfl (y_assign rfl) ?_
  refine wr_nil ?_
  refine w_seq ?_
  refine w_seq ?_
  refine w_reg ?_
  refine wr_y rfl (y_assign rfl) ?_
  refine wr_nil ?_
  refine w_block ?_
  refine w_loop1 (fun (i : Int) => [(0, .slice A_u u.length c_u), (1, .slice A_t t.length c_t), (5, .int .i64 i)]) (fun (i : Int) => []) (fun (i : Int) => (0 ≤ i) ∧ (i ≤ u.length) ∧ (i ≤ t.length) ∧ (cmpL u t = cmpL (u.drop i.toNat) (t.drop i.toNat))) (fun (i : Int) => (u.length - i).toNat) ?_ ?_
  ·
    exact ⟨0, ⟨(by omega), (by omega), (by omega), (by simp)⟩, (Sub.cons rfl (Sub.cons rfl (Sub.cons rfl Sub.nil))), fun _ h => h⟩
  intro i ⟨hi0, hiu, hit, hc⟩
  refine w_seq ?_
  refine w_seq ?_
  refine w_reg ?_
  refine wr_y rfl (y_move rfl) ?_
  refine wr_y rfl (y_move rfl) ?_
  refine wr_y rfl (y_len Try.underlying22 rfl) ?_
  refine wr_y rfl (y_lt rfl rfl) ?_
  refine wr_y rfl (y_move rfl) ?_
  refine wr_mid 5 [(0, .slice A_u u.length c_u), (1, .slice A_t t.length c_t), (5, .int .i64 i), (15, .bool (decide ((i < ((u.length : Nat) : Int)) ∧ (i < ((t.length : Nat) : Int)))))] [] ?_ ?_
  ·
    refine wr_case 10 rfl (fun hc1 => ?_) (fun hc1 => ?_)
    ·
      refine wr_yes rfl rfl ?_
      refine wr_y rfl (y_move rfl) ?_
      refine wr_yes rfl rfl ?_
      refine wr_y rfl (y_move rfl) ?_
      refine wr_yes rfl rfl ?_
      refine wr_y rfl (y_len Try.underlying22 rfl) ?_
      refine wr_yes rfl rfl ?_
      refine wr_y rfl (y_lt rfl rfl) ?_
      refine wr_y rfl (y_pickT rfl rfl) ?_
      refine wr_nil ?_
      exact ⟨(Sub.cons rfl (Sub.cons rfl (Sub.cons rfl (Sub.to rfl (mb (by first | omega | exact ⟨fun h => ⟨(by assumption), h⟩, fun h => h.2⟩ | simp [*])) Sub.nil)))), fun _ h => h⟩
    ·
      refine wr_no rfl rfl rfl rfl ?_
      refine wr_no rfl rfl rfl rfl ?_
      refine wr_no rfl rfl rfl rfl ?_
      refine wr_no rfl rfl rfl rfl ?_
      refine wr_y rfl (y_pickF rfl rfl) ?_
      refine wr_nil ?_
      exact ⟨(Sub.cons rfl (Sub.cons rfl (Sub.cons rfl (Sub.to rfl (mb_f (by first | omega | exact ⟨fun h => ⟨(by assumption), h⟩, fun h => h.2⟩ | simp [*])) Sub.nil)))), fun _ h => h⟩
  refine wr_nil ?_
  refine w_if rfl (fun hc2 => ?_) (fun hc2 => ?_)
  ·
    refine w_skip ?_
    refine w_seq ?_
    refine w_block ?_
    refine w_seq ?_
    refine w_seq ?_
    refine w_regd mixed ?_
    refine wd_y 0 rfl (by kernel_rfl) rfl (y_move rfl) ?_
    refine wd_y 1 rfl (by kernel_rfl) rfl (y_move rfl) ?_
    refine wd_y 2 rfl (by kernel_rfl) rfl (y_index1 Try.underlying22 sz3 rfl rfl (h_u.c _) (by omega) (by omega)) ?_
    refine wd_y 3 rfl (by kernel_rfl) rfl (y_ldI Try.underlying3 rfl rfl (h_u.c _) (by omega) (by omega)) ?_
    refine wd_y 4 rfl (by kernel_rfl) rfl (y_move rfl) ?_
    refine wd_y 5 rfl (by kernel_rfl) rfl (y_move rfl) ?_
    refine wd_y 6 rfl (by kernel_rfl) rfl (y_index1 Try.underlying22 sz3 rfl rfl (h_t.c _) (by omega) (by omega)) ?_
    refine wd_y 7 rfl (by kernel_rfl) rfl (y_ldI Try.underlying3 rfl rfl (h_t.c _) (by omega) (by omega)) ?_
    refine wd_y 8 rfl (by kernel_rfl) rfl (y_lt rfl rfl) ?_
    refine wd_nil (by kernel_rfl) ?_
    refine w_if rfl (fun hc3 => ?_) (fun hc3 => ?_)
    ·
      refine w_seq ?_
      refine w_reg ?_
      refine wr_y rfl (y_assign rfl) ?_
      refine wr_nil ?_
      refine w_ret ?_
      refine ⟨_, rfl, ?_⟩
      exact congrArg (Value.int .i64) (by rw [hc, cmpL_step hi0 (by omega) (by omega), if_pos (by omega)])
    ·
      refine w_skip ?_
      refine w_seq ?_
      refine w_regd mixed ?_
      refine wd_y 0 rfl (by kernel_rfl) rfl (y_move rfl) ?_
      refine wd_y 1 rfl (by kernel_rfl) rfl (y_move rfl) ?_
      refine wd_y 2 rfl (by kernel_rfl) rfl (y_index1 Try.underlying22 sz3 rfl rfl (h_u.c _) (by omega) (by omega)) ?_
      refine wd_y 3 rfl (by kernel_rfl) rfl (y_ldI Try.underlying3 rfl rfl (h_u.c _) (by omega) (by omega)) ?_
      refine wd_y 4 rfl (by kernel_rfl) rfl (y_move rfl) ?_
      refine wd_y 5 rfl (by kernel_rfl) rfl (y_move rfl) ?_
      refine wd_y 6 rfl (by kernel_rfl) rfl (y_index1 Try.underlying22 sz3 rfl rfl (h_t.c _) (by omega) (by omega)) ?_
      refine wd_y 7 rfl (by kernel_rfl) rfl (y_ldI Try.underlying3 rfl rfl (h_t.c _) (by omega) (by omega)) ?_
      refine wd_y 8 rfl (by kernel_rfl) rfl (y_gt rfl rfl) ?_
      refine wd_nil (by kernel_rfl) ?_
      refine w_if rfl (fun hc4 => ?_) (fun hc4 => ?_)
      ·
        refine w_seq ?_
        refine w_reg ?_
        refine wr_y rfl (y_assign rfl) ?_
        refine wr_nil ?_
        refine w_ret ?_
        refine ⟨_, rfl, ?_⟩
        exact congrArg (Value.int .i64) (by rw [hc, cmpL_step hi0 (by omega) (by omega), if_neg (by omega), if_pos (by omega)])
      ·
        refine w_skip ?_
        refine w_reg ?_
        refine wr_y rfl (y_move rfl) ?_
        refine wr_y rfl (y_addI rfl rfl (by omega)) ?_
        refine wr_y rfl (y_assign rfl) ?_
        refine wr_nil ?_
        exact ⟨i + 1, ⟨(by omega), (by omega), (by omega), (by rw [hc, cmpL_step hi0 (by omega) (by omega), if_neg (by omega), if_neg (by omega)])⟩, (by omega), (Sub.cons rfl (Sub.cons rfl (Sub.cons rfl Sub.nil))), fun _ h => h⟩
  ·
    refine w_exit ?_
    refine w_seq ?_
    refine w_block ?_
    refine w_seq ?_
    refine w_reg ?_
    refine wr_y rfl (y_move rfl) ?_
    refine wr_y rfl (y_len Try.underlying22 rfl) ?_
    refine wr_y rfl (y_move rfl) ?_
    refine wr_y rfl (y_len Try.underlying22 rfl) ?_
    refine wr_y rfl (y_lt rfl rfl) ?_
    refine wr_y rfl (y_assign rfl) ?_
    refine wr_nil ?_
    refine w_if rfl (fun hc5 => ?_) (fun hc5 => ?_)
    ·
      refine w_seq ?_
      refine w_reg ?_
      refine wr_y rfl (y_assign rfl) ?_
      refine wr_nil ?_
      refine w_ret ?_
      refine ⟨_, rfl, ?_⟩
      exact congrArg (Value.int .i64) (by rw [hc, cmpL_end hi0 hiu hit (by omega), if_pos (by omega)])
    ·
      refine w_seq ?_
      refine w_reg ?_
      refine wr_y rfl (y_move rfl) ?_
      refine wr_y rfl (y_len Try.underlying22 rfl) ?_
      refine wr_y rfl (y_move rfl) ?_
      refine wr_y rfl (y_len Try.underlying22 rfl) ?_
      refine wr_y rfl (y_gt rfl rfl) ?_
      refine wr_y rfl (y_assign rfl) ?_
      refine wr_nil ?_
      refine w_if rfl (fun hc6 => ?_) (fun hc6 => ?_)
      ·
        refine w_seq ?_
        refine w_reg ?_
        refine wr_y rfl (y_assign rfl) ?_
        refine wr_nil ?_
        refine w_ret ?_
        refine ⟨_, rfl, ?_⟩
        exact congrArg (Value.int .i64) (by rw [hc, cmpL_end hi0 hiu hit (by omega), if_neg (by omega), if_pos (by omega)])
      ·
        refine w_skip ?_
        refine w_seq ?_
        refine w_reg ?_
        refine wr_y rfl (y_assign rfl) ?_
        refine wr_nil ?_
        refine w_ret ?_
        refine ⟨_, rfl, ?_⟩
        exact congrArg (Value.int .i64) (by rw [hc, cmpL_end hi0 hiu hit (by omega), if_neg (by omega), if_neg (by omega)])

/-! whorl/whorlref4.Ints -/
set_option maxRecDepth 100000 in
theorem ints4_ct {w : World} {A_l : Option Addr} {n_l c_l : Nat} {l : List Int} {A_m : Option Addr} {n_m c_m : Nat} {m : List Int} (h_l : Rd w A_l n_l c_l 1 (ints .i64 l)) (h_m : Rd w A_m n_m c_m 1 (ints .i64 m)) (hN : l.length ≤ 1000000) :
    Ct Try.prog 21 #[.slice A_l n_l c_l, .slice A_m n_m c_m] w.heap.size w [] (fun v R' => v = .bool (decide (l = m))) := by
  obtain rfl := h_l.lenI
  obtain rfl := h_m.lenI
  refine fn1 Try.func21 rfl rfl rfl ?_
  have m_l := h_l.max
  have m_m := h_m.max
  refine w_seq ?_
  refine w_reg ?_
  refine wr_y rfl (y_assign rfl) ?_
  refine wr_nil ?_
  refine w_seq ?_
  refine w_seq ?_
  refine w_reg ?_
  refine wr_y rfl (y_move rfl) ?_
  refine wr_y rfl (y_len Try.underlying22 rfl) ?_
  refine wr_y rfl (y_move rfl) ?_
  refine wr_y rfl (y_len Try.underlying22 rfl) ?_
  refine wr_y rfl (y_ne rfl rfl) ?_
  refine wr_nil ?_
  refine w_if rfl (fun hc1 => ?_) (fun hc1 => ?_)
  ·
    refine w_seq ?_
    refine w_reg ?_
    refine wr_y rfl (y_assign rfl) ?_
    refine wr_nil ?_
    refine w_ret ?_
    refine ⟨_, rfl, ?_⟩
    exact congrArg Value.bool (decide_eq_false (fun e => by rw [e] at hc1; exact hc1 rfl)).symm
  ·
    refine w_skip ?_
    refine w_seq ?_
    refine w_seq ?_
    refine w_reg ?_
    refine wr_y rfl (y_assign rfl) ?_
    refine wr_nil ?_
    refine w_block ?_
    refine w_loop1 (fun (k : Int) => [(0, .slice A_l l.length c_l), (1, .slice A_m m.length c_m), (5, .int .i64 k)]) (fun (k : Int) => []) (fun (k : Int) => (0 ≤ k) ∧ (k ≤ l.length) ∧ (l.take k.toNat = m.take k.toNat)) (fun (k : Int) => (l.length - k).toNat) ?_ ?_
    ·
      exact ⟨0, ⟨(by omega), (by omega), (rfl)⟩, (Sub.cons rfl (Sub.cons rfl (Sub.cons rfl Sub.nil))), fun _ h => h⟩
    intro k ⟨hk0, hk1, hq⟩
    refine w_seq ?_
    refine w_seq ?_
    refine w_reg ?_
    refine wr_y rfl (y_move rfl) ?_
    refine wr_y rfl (y_move rfl) ?_
    refine wr_y rfl (y_len Try.underlying22 rfl) ?_
    refine wr_y rfl (y_lt rfl rfl) ?_
    refine wr_nil ?_
    refine w_if rfl (fun hc2 => ?_) (fun hc2 => ?_)
    ·
      refine w_skip ?_
      refine w_seq ?_
      refine w_block ?_
      refine w_seq ?_
      refine w_regd mixed ?_
      refine wd_y 0 rfl (by kernel_rfl) rfl (y_move rfl) ?_
      refine wd_y 1 rfl (by kernel_rfl) rfl (y_move rfl) ?_
      refine wd_y 2 rfl (by kernel_rfl) rfl (y_index1 Try.underlying22 sz3 rfl rfl (h_l.c _) (by omega) (by omega)) ?_
      refine wd_y 3 rfl (by kernel_rfl) rfl (y_ldI Try.underlying3 rfl rfl (h_l.c _) (by omega) (by omega)) ?_
      refine wd_y 4 rfl (by kernel_rfl) rfl (y_move rfl) ?_
      refine wd_y 5 rfl (by kernel_rfl) rfl (y_move rfl) ?_
      refine wd_y 6 rfl (by kernel_rfl) rfl (y_index1 Try.underlying22 sz3 rfl rfl (h_m.c _) (by omega) (by omega)) ?_
      refine wd_y 7 rfl (by kernel_rfl) rfl (y_ldI Try.underlying3 rfl rfl (h_m.c _) (by omega) (by omega)) ?_
      refine wd_y 8 rfl (by kernel_rfl) rfl (y_ne rfl rfl) ?_
      refine wd_nil (by kernel_rfl) ?_
      refine w_if rfl (fun hc3 => ?_) (fun hc3 => ?_)
      ·
        refine w_seq ?_
        refine w_reg ?_
        refine wr_y rfl (y_assign rfl) ?_
        refine wr_nil ?_
        refine w_ret ?_
        refine ⟨_, rfl, ?_⟩
        exact congrArg Value.bool (decide_eq_false (fun e => by subst e; exact hc3 rfl)).symm
      ·
        refine w_skip ?_
        refine w_reg ?_
        refine wr_y rfl (y_move rfl) ?_
        refine wr_y rfl (y_addI rfl rfl (by omega)) ?_
        refine wr_y rfl (y_assign rfl) ?_
        refine wr_nil ?_
        exact ⟨k + 1, ⟨(by omega), (by omega), (by rw [take_rd hk0 (by omega), take_rd hk0 (by omega), hq]; exact congrArg (fun z => List.take k.toNat m ++ [z]) (Decidable.not_not.1 (by assumption)))⟩, (by omega), (Sub.cons rfl (Sub.cons rfl (Sub.cons rfl Sub.nil))), fun _ h => h⟩
    ·
      refine w_exit ?_
      refine w_seq ?_
      refine w_reg ?_
      refine wr_y rfl (y_assign rfl) ?_
      refine wr_nil ?_
      refine w_ret ?_
      refine ⟨_, rfl, ?_⟩
      exact congrArg Value.bool (decide_eq_true (by rw [List.take_of_length_le (by omega), List.take_of_length_le (by omega)] at hq; exact hq)).symm

/-! whorl/whorlref13.Order -/
set_option maxRecDepth 100000 in
set_option maxHeartbeats 600000 in
theorem order13_ct {w : World} {A_s : Option Addr} {n_s c_s : Nat} {s : List Int} (h_s : Rd w A_s n_s c_s 1 (ints .i64 s)) (hN : s.length ≤ 1000000) :
    Ct Try.prog 34 #[.slice A_s n_s c_s] w.heap.size w [] (fun v R' => ∃ (b : List Int) (A : Option Addr) (c : Nat), v = .slice A s.length c ∧ b.Perm (iota s.length) ∧ b.Pairwise (ordE s) ∧ R' = [⟨3, 1, A, s.length, c, ints .i64 b, false⟩]) := by
  obtain rfl := h_s.lenI
  refine fn1 Try.func34 rfl rfl rfl ?_
  have m_s := h_s.max
  refine w_seq ?_
  refine w_reg ?_
  refine wr_y rfl (y_assign rfl) ?_
  refine wr_nil ?_
  refine w_seq ?_
  refine w_reg ?_
  refine wr_sub (R1 := [⟨3, 1, none, 0, 0, ints .i64 ([]), false⟩]) (Sub.refl _) (fun _ h => h.nil 3 1) ?_
  refine wr_y rfl (y_assign rfl) ?_
  refine wr_nil ?_
  refine w_seq ?_
  refine w_seq ?_
  refine w_reg ?_
  refine wr_y rfl (y_assign rfl) ?_
  refine wr_nil ?_
  refine w_block ?_
  refine w_loop5 (fun (i : Int) (A1 : Option Addr) (n1 : Nat) (c1 : Nat) (U : List Int) => [(0, .slice A_s s.length c_s), (3, .slice A1 n1 c1), (4, .int .i64 i)]) (fun (i : Int) (A1 : Option Addr) (n1 : Nat) (c1 : Nat) (U : List Int) => [⟨3, 1, A1, n1, c1, ints .i64 U, false⟩]) (fun (i : Int) (A1 : Option Addr) (n1 : Nat) (c1 : Nat) (U : List Int) => (0 ≤ i) ∧ (i ≤ s.length) ∧ (n1 = U.length) ∧ (U.Perm (iota i.toNat)) ∧ (U.Pairwise (ordE s))) (fun (i : Int) (A1 : Option Addr) (n1 : Nat) (c1 : Nat) (U : List Int) => (s.length - i).toNat) ?_ ?_
  ·
    exact ⟨0, none, 0, 0, [], ⟨(by omega), (by omega), (rfl), (.refl _), (.nil)⟩, (Sub.cons rfl (Sub.cons rfl (Sub.cons rfl Sub.nil))), fun _ h => h⟩
  intro i A1 n1 c1 U ⟨hi0, hi1, hn1, hp, hs⟩
  have hUl : U.length = i.toNat := by rw [hp.length_eq, iota_len]
  refine w_seq ?_
  refine w_seq ?_
  refine w_reg ?_
  refine wr_y rfl (y_move rfl) ?_
  refine wr_y rfl (y_move rfl) ?_
  refine wr_y rfl (y_len Try.underlying22 rfl) ?_
  refine wr_y rfl (y_lt rfl rfl) ?_
  refine wr_nil ?_
  refine w_if rfl (fun hc1 => ?_) (fun hc1 => ?_)
  ·
    refine w_skip ?_
    refine w_seq ?_
    refine w_block ?_
    refine w_seq ?_
    refine w_reg ?_
    refine wr_y rfl (y_move rfl) ?_
    refine wr_y rfl (y_len Try.underlying22 rfl) ?_
    refine wr_y rfl (y_assign rfl) ?_
    refine wr_nil ?_
    refine w_seq ?_
    refine w_block ?_
    refine w_loop1 (fun (j : Int) => [(0, .slice A_s s.length c_s), (3, .slice A1 n1 c1), (4, .int .i64 i), (5, .int .i64 j)]) (fun (j : Int) => [⟨3, 1, A1, n1, c1, ints .i64 U, false⟩]) (fun (j : Int) => (0 ≤ j) ∧ (j ≤ U.length) ∧ (∀ q : Int, j ≤ q → q < U.length → ordE s i (rd U q))) (fun (j : Int) => j.toNat) ?_ ?_
    ·
      exact ⟨((n1 : Nat) : Int), ⟨(by omega), (by omega), (fun q h1 h2 => by omega)⟩, (Sub.cons rfl (Sub.cons rfl (Sub.cons rfl (Sub.cons rfl Sub.nil)))), fun _ h => h⟩
    intro j ⟨hj0, hj1, hgt⟩
    have hmem : ∀ q : Int, 0 ≤ q → q < U.length → 0 ≤ rd U q ∧ rd U q < i.toNat := fun q h1 h2 => mem_iota.1 (hp.subset (rd_mem h1 h2))
    have hmj : 0 < j → 0 ≤ rd U (j - 1) ∧ rd U (j - 1) < s.length := fun h => by have := hmem (j - 1) (by omega) (by omega); omega
    refine w_seq ?_
    refine w_join0 [(0, .slice A_s s.length c_s), (3, .slice A1 n1 c1), (4, .int .i64 i), (5, .int .i64 j), (29, .bool (decide ((0 < j) ∧ ((cmpL ((s).drop (i).toNat) ((s).drop (rd U (j - 1)).toNat)) < 0))))] [⟨3, 1, A1, n1, c1, ints .i64 U, false⟩] ?_ ?_
    ·
      refine w_regd mixed ?_
      refine wd_y 0 rfl (by kernel_rfl) rfl (y_move rfl) ?_
      refine wd_y 1 rfl (by kernel_rfl) rfl (y_gt rfl rfl) ?_
      refine wd_y 2 rfl (by kernel_rfl) rfl (y_move rfl) ?_
      refine wd_case 16 rfl (fun hc2 => ?_) (fun hc2 => ?_)
      ·
        refine wd_yg 3 rfl (by kernel_rfl) rfl rfl rfl (y_move rfl) ?_
        refine wd_yg 4 rfl (by kernel_rfl) rfl rfl rfl (y_move rfl) ?_
        refine wd_yg 5 rfl (by kernel_rfl) rfl rfl rfl (y_sliceFrom Try.underlying22 sz3 rfl rfl (by omega) (by omega)) ?_
        refine wd_yg 6 rfl (by kernel_rfl) rfl rfl rfl (y_move rfl) ?_
        refine wd_yg 7 rfl (by kernel_rfl) rfl rfl rfl (y_move rfl) ?_
        refine wd_yg 8 rfl (by kernel_rfl) rfl rfl rfl (y_move rfl) ?_
        refine wd_yg 9 rfl (by kernel_rfl) rfl rfl rfl (y_subI rfl rfl (by omega)) ?_
        refine wd_yg 10 rfl (by kernel_rfl) rfl rfl rfl (y_index1 Try.underlying22 sz3 rfl rfl (rdr 0 rfl) (by omega) (by omega)) ?_
        refine wd_yg 11 rfl (by kernel_rfl) rfl rfl rfl (y_ldI Try.underlying3 rfl rfl (rdr 0 rfl) (by omega) (by omega)) ?_
        refine wd_yg 12 rfl (by kernel_rfl) rfl rfl rfl (y_sliceFrom Try.underlying22 sz3 rfl rfl (by have := hmem (j - 1) (by omega) (by omega); omega) (by have := hmem (j - 1) (by omega) (by omega); omega)) ?_
        refine wd_ag 13 rfl (by kernel_rfl) rfl rfl rfl (a_callF en43 rfl (Ct.quiet (fun w hw => words11_ct ((RdC.fromI (h_s.c _) (by omega)) w hw) ((RdC.fromI (h_s.c _) (by omega)) w hw)))) ?_
        rintro _ _ ⟨rfl, rfl⟩
        refine ⟨.inr fun _ h => h, ?_⟩
        refine wd_yg 14 rfl (by kernel_rfl) rfl rfl rfl (y_lt rfl rfl) ?_
        refine wd_y 15 rfl (by kernel_rfl) rfl (y_pickT rfl rfl) ?_
        refine wd_nil (by kernel_rfl) ?_
        exact ⟨(Sub.cons rfl (Sub.cons rfl (Sub.cons rfl (Sub.cons rfl (Sub.to rfl (mb (by first | omega | exact ⟨fun h => ⟨(by assumption), h⟩, fun h => h.2⟩ | simp [*])) Sub.nil))))), fun _ h => h⟩
      ·
        refine wd_no 3 rfl (by kernel_rfl) rfl rfl rfl rfl ?_
        refine wd_no 4 rfl (by kernel_rfl) rfl rfl rfl rfl ?_
        refine wd_no 5 rfl (by kernel_rfl) rfl rfl rfl rfl ?_
        refine wd_no 6 rfl (by kernel_rfl) rfl rfl rfl rfl ?_
        refine wd_no 7 rfl (by kernel_rfl) rfl rfl rfl rfl ?_
        refine wd_no 8 rfl (by kernel_rfl) rfl rfl rfl rfl ?_
        refine wd_no 9 rfl (by kernel_rfl) rfl rfl rfl rfl ?_
        refine wd_no 10 rfl (by kernel_rfl) rfl rfl rfl rfl ?_
        refine wd_no 11 rfl (by kernel_rfl) rfl rfl rfl rfl ?_
        refine wd_no 12 rfl (by kernel_rfl) rfl rfl rfl rfl ?_
        refine wd_no 13 rfl (by kernel_rfl) rfl rfl rfl rfl ?_
        refine wd_no 14 rfl (by kernel_rfl) rfl rfl rfl rfl ?_
        refine wd_y 15 rfl (by kernel_rfl) rfl (y_pickF rfl rfl) ?_
        refine wd_nil (by kernel_rfl) ?_
        exact ⟨(Sub.cons rfl (Sub.cons rfl (Sub.cons rfl (Sub.cons rfl (Sub.to rfl (mb_f (by first | omega | exact ⟨fun h => ⟨(by assumption), h⟩, fun h => h.2⟩ | simp [*])) Sub.nil))))), fun _ h => h⟩
    refine w_if rfl (fun hc3 => ?_) (fun hc3 => ?_)
    ·
      have hdn := insE_down (s := s) hgt hc3
      refine w_skip ?_
      refine w_block ?_
      refine w_reg ?_
      refine wr_y rfl (y_move rfl) ?_
      refine wr_y rfl (y_subI rfl rfl (by omega)) ?_
      refine wr_y rfl (y_assign rfl) ?_
      refine wr_nil ?_
      exact ⟨j - 1, ⟨(by omega), (by omega), (hdn)⟩, (by omega), (Sub.cons rfl (Sub.cons rfl (Sub.cons rfl (Sub.cons rfl Sub.nil)))), fun _ h => h⟩
    ·
      have hins := insE_all (s := s) hi0 (by omega) hp hs hj0 hj1 hgt hc3
      refine w_exit ?_
      refine w_regd mixed ?_
      refine wd_y 1 rfl (by kernel_rfl) rfl (y_move rfl) ?_
      refine wd_y 2 rfl (by kernel_rfl) rfl (y_move rfl) ?_
      refine wd_y 3 rfl (by kernel_rfl) rfl (y_sliceTo Try.underlying22 sz3 rfl rfl (rdr 0 rfl) (by omega) (by omega)) ?_
      refine wd_y 5 rfl (by kernel_rfl) rfl (y_move rfl) ?_
      refine wd_y 8 rfl (by kernel_rfl) rfl (y_move rfl) ?_
      refine wd_y 9 rfl (by kernel_rfl) rfl (y_move rfl) ?_
      refine wd_y 10 rfl (by kernel_rfl) rfl (y_sliceFrom Try.underlying22 sz3 rfl rfl (by omega) (by omega)) ?_
      refine wd_two 0 6 (by kernel_rfl) ?_ ?_
      ·
        refine t1_a 0 rfl rfl (a_litI .i64 [] Try.underlying22 zs3 rfl rfl rfl) ?_
        rintro _ _ ⟨g_2, rfl, rfl⟩
        refine ⟨.inr fun _ h => h.right (R' := [_]), ?_⟩
        refine wd_two 4 6 (by kernel_rfl) ?_ ?_
        ·
          refine t1_a 4 rfl rfl (a_appendI 0 rfl Try.underlying22 zb3 rfl rfl rfl (RdC.toI (rdr 1 rfl) (by omega)) (by omega)) ?_
          rintro _ _ ⟨A_3, c_4, rfl, rfl⟩
          refine ⟨.inl (by kernel_rfl), ?_⟩
          refine wd_rows (R1 := [⟨3, 1, A_3, (0 + ((j).toNat)), c_4, ints .i64 (([]) ++ ((U).take (j).toNat)), false⟩, ⟨3, 1, A1, n1, c1, ints .i64 U, false⟩]) rfl ?_
          refine wd_as (v := .slice A_3 (0 + ((j).toNat)) c_4) rfl ?_
          refine wd_a 6 rfl (by kernel_rfl) rfl (a_litI .i64 [i] Try.underlying22 zs3 rfl rfl rfl) ?_
          rintro _ _ ⟨g_6, rfl, rfl⟩
          refine ⟨.inr fun _ h => h.right (R' := [_]), ?_⟩
          refine wd_a 7 rfl (by kernel_rfl) rfl (a_appendI 1 rfl Try.underlying22 zb3 rfl rfl rfl (rdr 0 rfl) (by omega)) ?_
          rintro _ _ ⟨A_7, c_8, rfl, rfl⟩
          refine ⟨.inl (by kernel_rfl), ?_⟩
          refine wd_rows (R1 := [⟨3, 1, (some ⟨g_6, 0, none⟩), 1, 1, ints .i64 ([i]), false⟩, ⟨3, 1, A_7, ((0 + ((j).toNat)) + 1), c_8, ints .i64 ((([]) ++ ((U).take (j).toNat)) ++ ([i])), false⟩, ⟨3, 1, A1, n1, c1, ints .i64 U, false⟩]) rfl ?_
          refine wd_as (v := .slice A_7 ((0 + ((j).toNat)) + 1) c_8) rfl ?_
          refine wd_a 11 rfl (by kernel_rfl) rfl (a_appendI 1 rfl Try.underlying22 zb3 rfl rfl rfl (RdC.fromI (rdr 2 rfl) (by omega)) (by omega)) ?_
          rintro _ _ ⟨A_9, c_10, rfl, rfl⟩
          refine ⟨.inl (by kernel_rfl), ?_⟩
          refine wd_rows (R1 := [⟨3, 1, (some ⟨g_6, 0, none⟩), 1, 1, ints .i64 ([i]), false⟩, ⟨3, 1, A_9, (((0 + ((j).toNat)) + 1) + (n1 - (j).toNat)), c_10, ints .i64 (((([]) ++ ((U).take (j).toNat)) ++ ([i])) ++ ((U).drop (j).toNat)), false⟩, ⟨3, 1, A1, n1, c1, ints .i64 U, false⟩]) rfl ?_
          refine wd_as (v := .slice A_9 (((0 + ((j).toNat)) + 1) + (n1 - (j).toNat)) c_10) rfl ?_
          refine wd_y 12 rfl (by kernel_rfl) rfl (y_assign rfl) ?_
          refine wd_nil (by kernel_rfl) ?_
          refine w_reg ?_
          refine wr_y rfl (y_move rfl) ?_
          refine wr_y rfl (y_addI rfl rfl (by omega)) ?_
          refine wr_y rfl (y_assign rfl) ?_
          refine wr_nil ?_
          exact ⟨i + 1, A_9, ((0 + ((j).toNat)) + 1) + (n1 - (j).toNat), c_10, ((([]) ++ ((U).take (j).toNat)) ++ ([i])) ++ ((U).drop (j).toNat), ⟨(by omega), (by omega), (by simp only [List.length_append, List.length_take, List.length_drop, List.length_cons, List.length_nil]; omega), (hins.1), (hins.2)⟩, (by omega), (Sub.cons rfl (Sub.cons rfl (Sub.cons rfl Sub.nil))), fun _ h => h.sel [1] (by decide) rfl⟩
        ·
          refine t1_a 6 rfl rfl (a_litI .i64 [i] Try.underlying22 zs3 rfl rfl rfl) ?_
          rintro _ _ ⟨g_13, rfl, rfl⟩
          refine ⟨.inr fun _ h => h.right (R' := [_]), ?_⟩
          refine wd_a 4 rfl (by kernel_rfl) rfl (a_appendI 1 rfl Try.underlying22 zb3 rfl rfl rfl (RdC.toI (rdr 2 rfl) (by omega)) (by omega)) ?_
          rintro _ _ ⟨A_14, c_15, rfl, rfl⟩
          refine ⟨.inl (by kernel_rfl), ?_⟩
          refine wd_rows (R1 := [⟨3, 1, (some ⟨g_13, 0, none⟩), 1, 1, ints .i64 ([i]), false⟩, ⟨3, 1, A_14, (0 + ((j).toNat)), c_15, ints .i64 (([]) ++ ((U).take (j).toNat)), false⟩, ⟨3, 1, A1, n1, c1, ints .i64 U, false⟩]) rfl ?_
          refine wd_as (v := .slice A_14 (0 + ((j).toNat)) c_15) rfl ?_
          refine wd_a 7 rfl (by kernel_rfl) rfl (a_appendI 1 rfl Try.underlying22 zb3 rfl rfl rfl (rdr 0 rfl) (by omega)) ?_
          rintro _ _ ⟨A_16, c_17, rfl, rfl⟩
          refine ⟨.inl (by kernel_rfl), ?_⟩
          refine wd_rows (R1 := [⟨3, 1, (some ⟨g_13, 0, none⟩), 1, 1, ints .i64 ([i]), false⟩, ⟨3, 1, A_16, ((0 + ((j).toNat)) + 1), c_17, ints .i64 ((([]) ++ ((U).take (j).toNat)) ++ ([i])), false⟩, ⟨3, 1, A1, n1, c1, ints .i64 U, false⟩]) rfl ?_
          refine wd_as (v := .slice A_16 ((0 + ((j).toNat)) + 1) c_17) rfl ?_
          refine wd_a 11 rfl (by kernel_rfl) rfl (a_appendI 1 rfl Try.underlying22 zb3 rfl rfl rfl (RdC.fromI (rdr 2 rfl) (by omega)) (by omega)) ?_
          rintro _ _ ⟨A_18, c_19, rfl, rfl⟩
          refine ⟨.inl (by kernel_rfl), ?_⟩
          refine wd_rows (R1 := [⟨3, 1, (some ⟨g_13, 0, none⟩), 1, 1, ints .i64 ([i]), false⟩, ⟨3, 1, A_18, (((0 + ((j).toNat)) + 1) + (n1 - (j).toNat)), c_19, ints .i64 (((([]) ++ ((U).take (j).toNat)) ++ ([i])) ++ ((U).drop (j).toNat)), false⟩, ⟨3, 1, A1, n1, c1, ints .i64 U, false⟩]) rfl ?_
          refine wd_as (v := .slice A_18 (((0 + ((j).toNat)) + 1) + (n1 - (j).toNat)) c_19) rfl ?_
          refine wd_y 12 rfl (by kernel_rfl) rfl (y_assign rfl) ?_
          refine wd_nil (by kernel_rfl) ?_
          refine w_reg ?_
          refine wr_y rfl (y_move rfl) ?_
          refine wr_y rfl (y_addI rfl rfl (by omega)) ?_
          refine wr_y rfl (y_assign rfl) ?_
          refine wr_nil ?_
          exact ⟨i + 1, A_18, ((0 + ((j).toNat)) + 1) + (n1 - (j).toNat), c_19, ((([]) ++ ((U).take (j).toNat)) ++ ([i])) ++ ((U).drop (j).toNat), ⟨(by omega), (by omega), (by simp only [List.length_append, List.length_take, List.length_drop, List.length_cons, List.length_nil]; omega), (hins.1), (hins.2)⟩, (by omega), (Sub.cons rfl (Sub.cons rfl (Sub.cons rfl Sub.nil))), fun _ h => h.sel [1] (by decide) rfl⟩
      ·
        refine t1_a 6 rfl rfl (a_litI .i64 [i] Try.underlying22 zs3 rfl rfl rfl) ?_
        rintro _ _ ⟨g_22, rfl, rfl⟩
        refine ⟨.inr fun _ h => h.right (R' := [_]), ?_⟩
        refine wd_a 0 rfl (by kernel_rfl) rfl (a_litI .i64 [] Try.underlying22 zs3 rfl rfl rfl) ?_
        rintro _ _ ⟨g_24, rfl, rfl⟩
        refine ⟨.inr fun _ h => h.right (R' := [_]), ?_⟩
        refine wd_a 4 rfl (by kernel_rfl) rfl (a_appendI 0 rfl Try.underlying22 zb3 rfl rfl rfl (RdC.toI (rdr 2 rfl) (by omega)) (by omega)) ?_
        rintro _ _ ⟨A_25, c_26, rfl, rfl⟩
        refine ⟨.inl (by kernel_rfl), ?_⟩
        refine wd_rows (R1 := [⟨3, 1, A_25, (0 + ((j).toNat)), c_26, ints .i64 (([]) ++ ((U).take (j).toNat)), false⟩, ⟨3, 1, (some ⟨g_22, 0, none⟩), 1, 1, ints .i64 ([i]), false⟩, ⟨3, 1, A1, n1, c1, ints .i64 U, false⟩]) rfl ?_
        refine wd_as (v := .slice A_25 (0 + ((j).toNat)) c_26) rfl ?_
        refine wd_a 7 rfl (by kernel_rfl) rfl (a_appendI 0 rfl Try.underlying22 zb3 rfl rfl rfl (rdr 1 rfl) (by omega)) ?_
        rintro _ _ ⟨A_27, c_28, rfl, rfl⟩
        refine ⟨.inl (by kernel_rfl), ?_⟩
        refine wd_rows (R1 := [⟨3, 1, A_27, ((0 + ((j).toNat)) + 1), c_28, ints .i64 ((([]) ++ ((U).take (j).toNat)) ++ ([i])), false⟩, ⟨3, 1, (some ⟨g_22, 0, none⟩), 1, 1, ints .i64 ([i]), false⟩, ⟨3, 1, A1, n1, c1, ints .i64 U, false⟩]) rfl ?_
        refine wd_as (v := .slice A_27 ((0 + ((j).toNat)) + 1) c_28) rfl ?_
        refine wd_a 11 rfl (by kernel_rfl) rfl (a_appendI 0 rfl Try.underlying22 zb3 rfl rfl rfl (RdC.fromI (rdr 2 rfl) (by omega)) (by omega)) ?_
        rintro _ _ ⟨A_29, c_30, rfl, rfl⟩
        refine ⟨.inl (by kernel_rfl), ?_⟩
        refine wd_rows (R1 := [⟨3, 1, A_29, (((0 + ((j).toNat)) + 1) + (n1 - (j).toNat)), c_30, ints .i64 (((([]) ++ ((U).take (j).toNat)) ++ ([i])) ++ ((U).drop (j).toNat)), false⟩, ⟨3, 1, (some ⟨g_22, 0, none⟩), 1, 1, ints .i64 ([i]), false⟩, ⟨3, 1, A1, n1, c1, ints .i64 U, false⟩]) rfl ?_
        refine wd_as (v := .slice A_29 (((0 + ((j).toNat)) + 1) + (n1 - (j).toNat)) c_30) rfl ?_
        refine wd_y 12 rfl (by kernel_rfl) rfl (y_assign rfl) ?_
        refine wd_nil (by kernel_rfl) ?_
        refine w_reg ?_
        refine wr_y rfl (y_move rfl) ?_
        refine wr_y rfl (y_addI rfl rfl (by omega)) ?_
        refine wr_y rfl (y_assign rfl) ?_
        refine wr_nil ?_
        exact ⟨i + 1, A_29, ((0 + ((j).toNat)) + 1) + (n1 - (j).toNat), c_30, ((([]) ++ ((U).take (j).toNat)) ++ ([i])) ++ ((U).drop (j).toNat), ⟨(by omega), (by omega), (by simp only [List.length_append, List.length_take, List.length_drop, List.length_cons, List.length_nil]; omega), (hins.1), (hins.2)⟩, (by omega), (Sub.cons rfl (Sub.cons rfl (Sub.cons rfl Sub.nil))), fun _ h => h.sel [0] (by decide) rfl⟩
  ·
    refine w_exit ?_
    refine w_seq ?_
    refine w_reg ?_
    refine wr_y rfl (y_move rfl) ?_
    refine wr_y rfl (y_assign rfl) ?_
    refine wr_nil ?_
    refine w_retR (R1 := [⟨3, 1, A1, n1, c1, ints .i64 U, false⟩]) (fun _ h => h.sel [0] (by decide) rfl) ?_
    refine ⟨_, rfl, ?_⟩
    obtain rfl : n1 = s.length := by omega
    exact ⟨U, _, _, rfl, by have e : i.toNat = s.length := (by omega); rw [← e]; exact hp, hs, rfl⟩

/-! whorl/whorlref13.Numbers -/
set_option maxRecDepth 100000 in
theorem numbers13_ct {w : World} {A_u : Option Addr} {n_u c_u : Nat} {u : List Int} (h_u : Rd w A_u n_u c_u 1 (ints .u8 u)) (bh_u : ByteL u) (hN : u.length ≤ 1000000) :
    Ct Try.prog 40 #[.slice A_u n_u c_u] w.heap.size w [] (fun v R' => ∃ A c, v = .slice A (u).length c ∧ R' = [⟨3, 1, A, (u).length, c, ints .i64 (u), false⟩]) := by
  obtain rfl := h_u.lenI
  refine fn1 Try.func40 rfl rfl rfl ?_
  have m_u := h_u.max
  refine w_seq ?_
  refine w_reg ?_
  refine wr_y rfl (y_assign rfl) ?_
  refine wr_nil ?_
  refine w_seq ?_
  refine w_reg ?_
  refine wr_sub (R1 := [⟨3, 1, none, 0, 0, ints .i64 ([]), false⟩]) (Sub.refl _) (fun _ h => h.nil 3 1) ?_
  refine wr_y rfl (y_assign rfl) ?_
  refine wr_nil ?_
  refine w_seq ?_
  refine w_seq ?_
  refine w_reg ?_
  refine wr_y rfl (y_assign rfl) ?_
  refine wr_nil ?_
  refine w_block ?_
  refine w_loop5 (fun (A1 : Option Addr) (n1 : Nat) (c1 : Nat) (acc : List Int) (i : Int) => [(0, .slice A_u u.length c_u), (3, .slice A1 n1 c1), (4, .int .i64 i)]) (fun (A1 : Option Addr) (n1 : Nat) (c1 : Nat) (acc : List Int) (i : Int) => [⟨3, 1, A1, n1, c1, ints .i64 acc, false⟩]) (fun (A1 : Option Addr) (n1 : Nat) (c1 : Nat) (acc : List Int) (i : Int) => (n1 = acc.length) ∧ (0 ≤ i) ∧ (i ≤ u.length) ∧ (acc = u.take i.toNat)) (fun (A1 : Option Addr) (n1 : Nat) (c1 : Nat) (acc : List Int) (i : Int) => (u.length - i).toNat) ?_ ?_
  ·
    exact ⟨none, 0, 0, [], 0, ⟨(rfl), (by omega), (by omega), (rfl)⟩, (Sub.cons rfl (Sub.cons rfl (Sub.cons rfl Sub.nil))), fun _ h => h⟩
  intro A1 n1 c1 acc i ⟨hn1, hi0, hi1, hacc⟩
  refine w_seq ?_
  refine w_seq ?_
  refine w_reg ?_
  refine wr_y rfl (y_move rfl) ?_
  refine wr_y rfl (y_move rfl) ?_
  refine wr_y rfl (y_len Try.underlying31 rfl) ?_
  refine wr_y rfl (y_lt rfl rfl) ?_
  refine wr_nil ?_
  refine w_if rfl (fun hc1 => ?_) (fun hc1 => ?_)
  ·
    have hbi := bh_u.rd i
    refine w_skip ?_
    refine w_seq ?_
    refine w_block ?_
    refine w_reg ?_
    refine wr_y rfl (y_move rfl) ?_
    refine wr_y rfl (y_move rfl) ?_
    refine wr_y rfl (y_move rfl) ?_
    refine wr_y rfl (y_index1 Try.underlying31 sz5 rfl rfl (h_u.c _) (by omega) (by omega)) ?_
    refine wr_y rfl (y_ldI Try.underlying5 rfl rfl (h_u.c _) (by omega) (by omega)) ?_
    refine wr_y rfl (y_convI Try.underlying5 Try.underlying3 rfl (by omega)) ?_
    refine wr_a rfl (a_litI .i64 [rd u i] Try.underlying22 zs3 rfl rfl rfl) ?_
    rintro _ _ ⟨g_2, rfl, rfl⟩
    refine wr_a rfl (a_appendI 1 rfl Try.underlying22 zb3 rfl rfl rfl (rdr 0 rfl) (by have := congrArg List.length hacc; rw [List.length_take] at this; omega)) ?_
    rintro _ _ ⟨A_3, c_4, rfl, rfl⟩
    refine wr_rows (R1 := [⟨3, 1, (some ⟨g_2, 0, none⟩), 1, 1, ints .i64 ([rd u i]), false⟩, ⟨3, 1, A_3, (n1 + 1), c_4, ints .i64 (acc ++ ([rd u i])), false⟩]) rfl ?_
    refine wr_as (v := .slice A_3 (n1 + 1) c_4) rfl ?_
    refine wr_y rfl (y_assign rfl) ?_
    refine wr_nil ?_
    refine w_reg ?_
    refine wr_y rfl (y_move rfl) ?_
    refine wr_y rfl (y_addI rfl rfl (by omega)) ?_
    refine wr_y rfl (y_assign rfl) ?_
    refine wr_nil ?_
    exact ⟨A_3, n1 + 1, c_4, acc ++ ([rd u i]), i + 1, ⟨(by rw [List.length_append, hn1]; try rfl), (by omega), (by omega), (by rw [take_rd hi0 (by omega), hacc])⟩, (by omega), (Sub.cons rfl (Sub.cons rfl (Sub.cons rfl Sub.nil))), fun _ h => h.sel [1] (by decide) rfl⟩
  ·
    refine w_exit ?_
    refine w_seq ?_
    refine w_reg ?_
    refine wr_y rfl (y_move rfl) ?_
    refine wr_y rfl (y_assign rfl) ?_
    refine wr_nil ?_
    refine w_retR (R1 := [⟨3, 1, A1, n1, c1, ints .i64 acc, false⟩]) (fun _ h => h.sel [0] (by decide) rfl) ?_
    refine ⟨_, rfl, ?_⟩
    rw [List.take_of_length_le (by omega)] at hacc
    subst hacc
    obtain rfl := hn1
    exact ⟨_, _, rfl, rfl⟩

/-! whorl/whorlref13.Bytes -/
set_option maxRecDepth 100000 in
theorem bytes13_ct {w : World} {A_u : Option Addr} {n_u c_u : Nat} {u : List Int} (h_u : Rd w A_u n_u c_u 1 (ints .u8 u)) (bh_u : ByteL u) (hN : u.length ≤ 1000000) :
    Ct Try.prog 24 #[.slice A_u n_u c_u] w.heap.size w [] (fun v R' => ∃ (b : List Int) (A : Option Addr) (c : Nat), v = .slice A u.length c ∧ b.Perm (iota u.length) ∧ b.Pairwise (ordE u) ∧ R' = [⟨3, 1, A, u.length, c, ints .i64 b, false⟩]) := by
  obtain rfl := h_u.lenI
  refine fn1 Try.func24 rfl rfl rfl ?_
  have m_u := h_u.max
  refine w_seq ?_
  refine w_reg ?_
  refine wr_y rfl (y_assign rfl) ?_
  refine wr_nil ?_
  refine w_seq ?_
  refine w_reg ?_
  refine wr_y rfl (y_move rfl) ?_
  refine wr_a rfl (a_callF en40 rfl (Ct.fresh (fun w hw => numbers13_ct ((h_u.c _) w hw) (by first | assumption | omega | decide) (by first | assumption | omega | decide)))) ?_
  rintro _ _ ⟨_, rfl, A_1, c_2, rfl, rfl⟩
  refine wr_a rfl (a_callF en34 rfl (Ct.fresh (fun w hw => order13_ct ((rdr 0 rfl) w hw) (by first | assumption | omega | decide)))) ?_
  rintro _ _ ⟨_, rfl, b1, A_4, c_5, rfl, hp_b1, hs_b1, rfl⟩
  refine wr_y rfl (y_assign rfl) ?_
  refine wr_nil ?_
  refine w_retR (R1 := [⟨3, 1, A_4, u.length, c_5, ints .i64 b1, false⟩]) (fun _ h => h.sel [0] (by decide) rfl) ?_
  refine ⟨_, rfl, ?_⟩
  exact ⟨b1, _, _, rfl, hp_b1, hs_b1, rfl⟩

/-! whorl/whorlref10.Counts -/
set_option maxRecDepth 100000 in
theorem counts10_ct {w : World} {A_ks : Option Addr} {n_ks c_ks : Nat} {ks : List Int} {k : Int} (h_ks : Rd w A_ks n_ks c_ks 1 (ints .i64 ks)) (hok : (0 ≤ k ∧ k ≤ 1048576) ∧ ∀ x ∈ ks, 0 ≤ x ∧ x < k) :
    Ct Try.prog 39 #[.slice A_ks n_ks c_ks, .int .i64 k] w.heap.size w [] (fun v R' => ∃ A c, v = .tuple #[.slice A k.toNat c, .bool true] ∧ R' = [⟨3, 1, A, k.toNat, c, ints .i64 (cntV ks k), false⟩]) := by
  obtain rfl := h_ks.lenI
  refine fn2 Try.func39 rfl rfl rfl ?_
  have m_ks := h_ks.max
  have hk := hok.1
  refine w_seq ?_
  refine w_reg ?_
  refine wr_y rfl (y_assign rfl) ?_
  refine wr_y rfl (y_assign rfl) ?_
  refine wr_nil ?_
  refine w_seq ?_
  refine w_seq ?_
  refine w_reg ?_
  refine wr_y rfl (y_move rfl) ?_
  refine wr_y rfl (y_lt rfl rfl) ?_
  refine wr_y rfl (y_move rfl) ?_
  refine wr_mid 3 [(0, .slice A_ks ks.length c_ks), (1, .int .i64 k), (13, .bool (decide ((k < 0) ∨ (1048576 < k))))] [] ?_ ?_
  ·
    refine wr_case 10 rfl (fun hc1 => ?_) (fun hc1 => ?_)
    ·
      refine wr_no rfl rfl rfl rfl ?_
      refine wr_no rfl rfl rfl rfl ?_
      refine wr_y rfl (y_pickT rfl rfl) ?_
      refine wr_nil ?_
      exact ⟨(Sub.cons rfl (Sub.cons rfl (Sub.to rfl (mb_t (by first | omega | exact ⟨fun h => ⟨(by assumption), h⟩, fun h => h.2⟩ | simp [*])) Sub.nil))), fun _ h => h⟩
    ·
      refine wr_yes rfl rfl ?_
      refine wr_y rfl (y_move rfl) ?_
      refine wr_yes rfl rfl ?_
      refine wr_y rfl (y_gt rfl rfl) ?_
      refine wr_y rfl (y_pickF rfl rfl) ?_
      refine wr_nil ?_
      exact ⟨(Sub.cons rfl (Sub.cons rfl (Sub.to rfl (mb (by first | omega | exact ⟨fun h => ⟨(by assumption), h⟩, fun h => h.2⟩ | simp [*])) Sub.nil))), fun _ h => h⟩
  refine wr_setF 13 rfl (by omega) ?_
  refine wr_nil ?_
  refine w_false rfl ?_
  refine w_skip ?_
  refine w_seq ?_
  refine w_reg ?_
  refine wr_y rfl (y_move rfl) ?_
  refine wr_a rfl (a_makeN Try.underlying22 zb3 rfl rfl (by omega) (by omega) (by omega)) ?_
  rintro _ _ ⟨g_1, rfl, rfl⟩
  refine wr_rows (R1 := [⟨3, 1, (some ⟨g_1, 0, none⟩), ((k).toNat), ((k).toNat), ints .i64 (List.replicate ((k).toNat) (0 : Int)), false⟩]) rfl ?_
  refine wr_as (v := .slice (some ⟨g_1, 0, none⟩) ((k).toNat) ((k).toNat)) rfl ?_
  refine wr_y rfl (y_assign rfl) ?_
  refine wr_nil ?_
  refine w_seq ?_
  refine w_seq ?_
  refine w_reg ?_
  refine wr_y rfl (y_assign rfl) ?_
  refine wr_nil ?_
  refine w_block ?_
  refine w_loop2 (fun (m : Int) (V : List Int) => [(0, .slice A_ks ks.length c_ks), (1, .int .i64 k), (6, .slice (some ⟨g_1, 0, none⟩) ((k).toNat) ((k).toNat)), (7, .int .i64 m)]) (fun (m : Int) (V : List Int) => [⟨3, 1, (some ⟨g_1, 0, none⟩), ((k).toNat), ((k).toNat), ints .i64 V, false⟩]) (fun (m : Int) (V : List Int) => (0 ≤ m) ∧ (m ≤ ks.length) ∧ (V = cntV (ks.take m.toNat) k)) (fun (m : Int) (V : List Int) => (ks.length - m).toNat) ?_ ?_
  ·
    exact ⟨0, List.replicate ((k).toNat) (0 : Int), ⟨(by omega), (by omega), ((cntV_nil k).symm)⟩, (Sub.cons rfl (Sub.cons rfl (Sub.cons rfl (Sub.cons rfl Sub.nil)))), fun _ h => h⟩
  intro m V ⟨hm0, hm1, hV⟩
  refine w_seq ?_
  refine w_seq ?_
  refine w_reg ?_
  refine wr_y rfl (y_move rfl) ?_
  refine wr_y rfl (y_move rfl) ?_
  refine wr_y rfl (y_len Try.underlying22 rfl) ?_
  refine wr_y rfl (y_lt rfl rfl) ?_
  refine wr_nil ?_
  refine w_if rfl (fun hc2 => ?_) (fun hc2 => ?_)
  ·
    have hx := hok.2 _ (rd_mem (L := ks) hm0 (by omega))
    have hb : 0 ≤ rd V (rd ks m) ∧ rd V (rd ks m) ≤ m := by
      have a := cntV_bound (ks := ks.take m.toNat) (k := k) (x := rd ks m)
      rw [← hV, List.length_take] at a
      omega
    refine w_skip ?_
    refine w_seq ?_
    refine w_block ?_
    refine w_seq ?_
    refine w_seq ?_
    refine w_reg ?_
    refine wr_y rfl (y_move rfl) ?_
    refine wr_y rfl (y_move rfl) ?_
    refine wr_y rfl (y_index1 Try.underlying22 sz3 rfl rfl (h_ks.c _) (by omega) (by omega)) ?_
    refine wr_y rfl (y_ldI Try.underlying3 rfl rfl (h_ks.c _) (by omega) (by omega)) ?_
    refine wr_y rfl (y_lt rfl rfl) ?_
    refine wr_y rfl (y_move rfl) ?_
    refine wr_mid 7 [(0, .slice A_ks ks.length c_ks), (1, .int .i64 k), (6, .slice (some ⟨g_1, 0, none⟩) ((k).toNat) ((k).toNat)), (7, .int .i64 m), (34, .bool (decide (((rd ks m) < 0) ∨ (k ≤ (rd ks m)))))] [⟨3, 1, (some ⟨g_1, 0, none⟩), ((k).toNat), ((k).toNat), ints .i64 V, false⟩] ?_ ?_
    ·
      refine wr_case 27 rfl (fun hc3 => ?_) (fun hc3 => ?_)
      ·
        refine wr_no rfl rfl rfl rfl ?_
        refine wr_no rfl rfl rfl rfl ?_
        refine wr_no rfl rfl rfl rfl ?_
        refine wr_no rfl rfl rfl rfl ?_
        refine wr_no rfl rfl rfl rfl ?_
        refine wr_no rfl rfl rfl rfl ?_
        refine wr_y rfl (y_pickT rfl rfl) ?_
        refine wr_nil ?_
        exact ⟨(Sub.cons rfl (Sub.cons rfl (Sub.cons rfl (Sub.cons rfl (Sub.to rfl (mb_t (by first | omega | exact ⟨fun h => ⟨(by assumption), h⟩, fun h => h.2⟩ | simp [*])) Sub.nil))))), fun _ h => h⟩
      ·
        refine wr_yes rfl rfl ?_
        refine wr_y rfl (y_move rfl) ?_
        refine wr_yes rfl rfl ?_
        refine wr_y rfl (y_move rfl) ?_
        refine wr_yes rfl rfl ?_
        refine wr_y rfl (y_index1 Try.underlying22 sz3 rfl rfl (h_ks.c _) (by omega) (by omega)) ?_
        refine wr_yes rfl rfl ?_
        refine wr_y rfl (y_ldI Try.underlying3 rfl rfl (h_ks.c _) (by omega) (by omega)) ?_
        refine wr_yes rfl rfl ?_
        refine wr_y rfl (y_move rfl) ?_
        refine wr_yes rfl rfl ?_
        refine wr_y rfl (y_ge rfl rfl) ?_
        refine wr_y rfl (y_pickF rfl rfl) ?_
        refine wr_nil ?_
        exact ⟨(Sub.cons rfl (Sub.cons rfl (Sub.cons rfl (Sub.cons rfl (Sub.to rfl (mb (by first | omega | exact ⟨fun h => ⟨(by assumption), h⟩, fun h => h.2⟩ | simp [*])) Sub.nil))))), fun _ h => h⟩
    refine wr_setF 34 rfl (by omega) ?_
    refine wr_nil ?_
    refine w_false rfl ?_
    refine w_skip ?_
    refine w_reg ?_
    refine wr_y rfl (y_move rfl) ?_
    refine wr_y rfl (y_move rfl) ?_
    refine wr_y rfl (y_move rfl) ?_
    refine wr_y rfl (y_index1 Try.underlying22 sz3 rfl rfl (h_ks.c _) (by omega) (by omega)) ?_
    refine wr_y rfl (y_ldI Try.underlying3 rfl rfl (h_ks.c _) (by omega) (by omega)) ?_
    refine wr_y rfl (y_index1 Try.underlying22 sz3 rfl rfl (rdr 0 rfl) (by omega) (by omega)) ?_
    refine wr_y rfl (y_ldI Try.underlying3 rfl rfl (rdr 0 rfl) (by omega) (by omega)) ?_
    refine wr_y rfl (y_addI rfl rfl (by omega)) ?_
    refine wr_y rfl (y_index1 Try.underlying22 sz3 rfl rfl (rdr 0 rfl) (by omega) (by omega)) ?_
    refine wr_n (a_storeI 0 rfl sz3 rfl rfl (by omega) (by omega)) ?_
    rintro _ _ rfl
    refine wr_rows (R1 := [⟨3, 1, (some ⟨g_1, 0, none⟩), ((k).toNat), ((k).toNat), ints .i64 (upd V (rd ks m) ((rd V (rd ks m)) + 1)), false⟩]) rfl ?_
    refine wr_nil ?_
    refine w_reg ?_
    refine wr_y rfl (y_move rfl) ?_
    refine wr_y rfl (y_addI rfl rfl (by omega)) ?_
    refine wr_y rfl (y_assign rfl) ?_
    refine wr_nil ?_
    exact ⟨m + 1, upd V (rd ks m) ((rd V (rd ks m)) + 1), ⟨(by omega), (by omega), (by rw [take_rd hm0 (by omega), ← cntV_step hx.1 hx.2, ← hV])⟩, (by omega), (Sub.cons rfl (Sub.cons rfl (Sub.cons rfl (Sub.cons rfl Sub.nil)))), fun _ h => h⟩
  ·
    refine w_exit ?_
    refine w_seq ?_
    refine w_reg ?_
    refine wr_y rfl (y_move rfl) ?_
    refine wr_y rfl (y_assign rfl) ?_
    refine wr_y rfl (y_assign rfl) ?_
    refine wr_nil ?_
    refine w_retR (R1 := [⟨3, 1, (some ⟨g_1, 0, none⟩), ((k).toNat), ((k).toNat), ints .i64 V, false⟩]) (fun _ h => h.sel [0] (by decide) rfl) ?_
    refine ⟨_, _, rfl, rfl, ?_⟩
    have e : ks.take m.toNat = ks := List.take_of_length_le (by omega)
    rw [e] at hV
    subst hV
    exact ⟨_, _, rfl, rfl⟩

/-! whorl/whorlref10.Counts -/
set_option maxRecDepth 100000 in
theorem counts10No_ct {w : World} {A_ks : Option Addr} {n_ks c_ks : Nat} {ks : List Int} {k : Int} (h_ks : Rd w A_ks n_ks c_ks 1 (ints .i64 ks)) (hno : ¬ ((0 ≤ k ∧ k ≤ 1048576) ∧ ∀ x ∈ ks, 0 ≤ x ∧ x < k)) :
    Ct Try.prog 39 #[.slice A_ks n_ks c_ks, .int .i64 k] w.heap.size w [] (fun v R' => v = .tuple #[.slice none 0 0, .bool false]) := by
  obtain rfl := h_ks.lenI
  refine fn2 Try.func39 rfl rfl rfl ?_
  have m_ks := h_ks.max
  refine w_seq ?_
  refine w_reg ?_
  refine wr_y rfl (y_assign rfl) ?_
  refine wr_y rfl (y_assign rfl) ?_
  refine wr_nil ?_
  refine w_seq ?_
  refine w_seq ?_
  refine w_reg ?_
  refine wr_y rfl (y_move rfl) ?_
  refine wr_y rfl (y_lt rfl rfl) ?_
  refine wr_y rfl (y_move rfl) ?_
  refine wr_mid 3 [(0, .slice A_ks ks.length c_ks), (1, .int .i64 k), (13, .bool (decide ((k < 0) ∨ (1048576 < k))))] [] ?_ ?_
  ·
    refine wr_case 10 rfl (fun hc1 => ?_) (fun hc1 => ?_)
    ·
      refine wr_no rfl rfl rfl rfl ?_
      refine wr_no rfl rfl rfl rfl ?_
      refine wr_y rfl (y_pickT rfl rfl) ?_
      refine wr_nil ?_
      exact ⟨(Sub.cons rfl (Sub.cons rfl (Sub.to rfl (mb_t (by first | omega | exact ⟨fun h => ⟨(by assumption), h⟩, fun h => h.2⟩ | simp [*])) Sub.nil))), fun _ h => h⟩
    ·
      refine wr_yes rfl rfl ?_
      refine wr_y rfl (y_move rfl) ?_
      refine wr_yes rfl rfl ?_
      refine wr_y rfl (y_gt rfl rfl) ?_
      refine wr_y rfl (y_pickF rfl rfl) ?_
      refine wr_nil ?_
      exact ⟨(Sub.cons rfl (Sub.cons rfl (Sub.to rfl (mb (by first | omega | exact ⟨fun h => ⟨(by assumption), h⟩, fun h => h.2⟩ | simp [*])) Sub.nil))), fun _ h => h⟩
  refine wr_nil ?_
  refine w_if rfl (fun hc2 => ?_) (fun hc2 => ?_)
  ·
    refine w_seq ?_
    refine w_reg ?_
    refine wr_y rfl (y_assign rfl) ?_
    refine wr_y rfl (y_assign rfl) ?_
    refine wr_nil ?_
    refine w_ret ?_
    refine ⟨_, _, rfl, rfl, ?_⟩
    rfl
  ·
    refine w_skip ?_
    refine w_seq ?_
    refine w_reg ?_
    refine wr_y rfl (y_move rfl) ?_
    refine wr_a rfl (a_makeN Try.underlying22 zb3 rfl rfl (by omega) (by omega) (by omega)) ?_
    rintro _ _ ⟨g_1, rfl, rfl⟩
    refine wr_rows (R1 := [⟨3, 1, (some ⟨g_1, 0, none⟩), ((k).toNat), ((k).toNat), ints .i64 (List.replicate ((k).toNat) (0 : Int)), false⟩]) rfl ?_
    refine wr_as (v := .slice (some ⟨g_1, 0, none⟩) ((k).toNat) ((k).toNat)) rfl ?_
    refine wr_y rfl (y_assign rfl) ?_
    refine wr_nil ?_
    refine w_seq ?_
    refine w_seq ?_
    refine w_reg ?_
    refine wr_y rfl (y_assign rfl) ?_
    refine wr_nil ?_
    refine w_block ?_
    refine w_loop2 (fun (m : Int) (V : List Int) => [(0, .slice A_ks ks.length c_ks), (1, .int .i64 k), (6, .slice (some ⟨g_1, 0, none⟩) ((k).toNat) ((k).toNat)), (7, .int .i64 m)]) (fun (m : Int) (V : List Int) => [⟨3, 1, (some ⟨g_1, 0, none⟩), ((k).toNat), ((k).toNat), ints .i64 V, false⟩]) (fun (m : Int) (V : List Int) => (0 ≤ m) ∧ (m ≤ ks.length) ∧ (∀ x ∈ ks.take m.toNat, 0 ≤ x ∧ x < k) ∧ (V = cntV (ks.take m.toNat) k)) (fun (m : Int) (V : List Int) => (ks.length - m).toNat) ?_ ?_
    ·
      exact ⟨0, List.replicate ((k).toNat) (0 : Int), ⟨(by omega), (by omega), (fun x hx => by cases hx), ((cntV_nil k).symm)⟩, (Sub.cons rfl (Sub.cons rfl (Sub.cons rfl (Sub.cons rfl Sub.nil)))), fun _ h => h⟩
    intro m V ⟨hm0, hm1, hall, hV⟩
    refine w_seq ?_
    refine w_seq ?_
    refine w_reg ?_
    refine wr_y rfl (y_move rfl) ?_
    refine wr_y rfl (y_move rfl) ?_
    refine wr_y rfl (y_len Try.underlying22 rfl) ?_
    refine wr_y rfl (y_lt rfl rfl) ?_
    refine wr_nil ?_
    refine w_if rfl (fun hc3 => ?_) (fun hc3 => ?_)
    ·
      refine w_skip ?_
      refine w_seq ?_
      refine w_block ?_
      refine w_seq ?_
      refine w_seq ?_
      refine w_reg ?_
      refine wr_y rfl (y_move rfl) ?_
      refine wr_y rfl (y_move rfl) ?_
      refine wr_y rfl (y_index1 Try.underlying22 sz3 rfl rfl (h_ks.c _) (by omega) (by omega)) ?_
      refine wr_y rfl (y_ldI Try.underlying3 rfl rfl (h_ks.c _) (by omega) (by omega)) ?_
      refine wr_y rfl (y_lt rfl rfl) ?_
      refine wr_y rfl (y_move rfl) ?_
      refine wr_mid 7 [(0, .slice A_ks ks.length c_ks), (1, .int .i64 k), (6, .slice (some ⟨g_1, 0, none⟩) ((k).toNat) ((k).toNat)), (7, .int .i64 m), (34, .bool (decide (((rd ks m) < 0) ∨ (k ≤ (rd ks m)))))] [⟨3, 1, (some ⟨g_1, 0, none⟩), ((k).toNat), ((k).toNat), ints .i64 V, false⟩] ?_ ?_
      ·
        refine wr_case 27 rfl (fun hc4 => ?_) (fun hc4 => ?_)
        ·
          refine wr_no rfl rfl rfl rfl ?_
          refine wr_no rfl rfl rfl rfl ?_
          refine wr_no rfl rfl rfl rfl ?_
          refine wr_no rfl rfl rfl rfl ?_
          refine wr_no rfl rfl rfl rfl ?_
          refine wr_no rfl rfl rfl rfl ?_
          refine wr_y rfl (y_pickT rfl rfl) ?_
          refine wr_nil ?_
          exact ⟨(Sub.cons rfl (Sub.cons rfl (Sub.cons rfl (Sub.cons rfl (Sub.to rfl (mb_t (by first | omega | exact ⟨fun h => ⟨(by assumption), h⟩, fun h => h.2⟩ | simp [*])) Sub.nil))))), fun _ h => h⟩
        ·
          refine wr_yes rfl rfl ?_
          refine wr_y rfl (y_move rfl) ?_
          refine wr_yes rfl rfl ?_
          refine wr_y rfl (y_move rfl) ?_
          refine wr_yes rfl rfl ?_
          refine wr_y rfl (y_index1 Try.underlying22 sz3 rfl rfl (h_ks.c _) (by omega) (by omega)) ?_
          refine wr_yes rfl rfl ?_
          refine wr_y rfl (y_ldI Try.underlying3 rfl rfl (h_ks.c _) (by omega) (by omega)) ?_
          refine wr_yes rfl rfl ?_
          refine wr_y rfl (y_move rfl) ?_
          refine wr_yes rfl rfl ?_
          refine wr_y rfl (y_ge rfl rfl) ?_
          refine wr_y rfl (y_pickF rfl rfl) ?_
          refine wr_nil ?_
          exact ⟨(Sub.cons rfl (Sub.cons rfl (Sub.cons rfl (Sub.cons rfl (Sub.to rfl (mb (by first | omega | exact ⟨fun h => ⟨(by assumption), h⟩, fun h => h.2⟩ | simp [*])) Sub.nil))))), fun _ h => h⟩
      refine wr_nil ?_
      refine w_if rfl (fun hc5 => ?_) (fun hc5 => ?_)
      ·
        refine w_seq ?_
        refine w_reg ?_
        refine wr_y rfl (y_assign rfl) ?_
        refine wr_y rfl (y_assign rfl) ?_
        refine wr_nil ?_
        refine w_retR (R1 := []) (fun _ h => h.sel [] (by decide) rfl) ?_
        refine ⟨_, _, rfl, rfl, ?_⟩
        rfl
      ·
        have hb : 0 ≤ rd V (rd ks m) ∧ rd V (rd ks m) ≤ m := by
          have a := cntV_bound (ks := ks.take m.toNat) (k := k) (x := rd ks m)
          rw [← hV, List.length_take] at a
          omega
        refine w_skip ?_
        refine w_reg ?_
        refine wr_y rfl (y_move rfl) ?_
        refine wr_y rfl (y_move rfl) ?_
        refine wr_y rfl (y_move rfl) ?_
        refine wr_y rfl (y_index1 Try.underlying22 sz3 rfl rfl (h_ks.c _) (by omega) (by omega)) ?_
        refine wr_y rfl (y_ldI Try.underlying3 rfl rfl (h_ks.c _) (by omega) (by omega)) ?_
        refine wr_y rfl (y_index1 Try.underlying22 sz3 rfl rfl (rdr 0 rfl) (by omega) (by omega)) ?_
        refine wr_y rfl (y_ldI Try.underlying3 rfl rfl (rdr 0 rfl) (by omega) (by omega)) ?_
        refine wr_y rfl (y_addI rfl rfl (by omega)) ?_
        refine wr_y rfl (y_index1 Try.underlying22 sz3 rfl rfl (rdr 0 rfl) (by omega) (by omega)) ?_
        refine wr_n (a_storeI 0 rfl sz3 rfl rfl (by omega) (by omega)) ?_
        rintro _ _ rfl
        refine wr_rows (R1 := [⟨3, 1, (some ⟨g_1, 0, none⟩), ((k).toNat), ((k).toNat), ints .i64 (upd V (rd ks m) ((rd V (rd ks m)) + 1)), false⟩]) rfl ?_
        refine wr_nil ?_
        refine w_reg ?_
        refine wr_y rfl (y_move rfl) ?_
        refine wr_y rfl (y_addI rfl rfl (by omega)) ?_
        refine wr_y rfl (y_assign rfl) ?_
        refine wr_nil ?_
        exact ⟨m + 1, upd V (rd ks m) ((rd V (rd ks m)) + 1), ⟨(by omega), (by omega), (by rw [take_rd hm0 (by omega)]; intro x hx; rcases List.mem_append.1 hx with hx | hx; exact hall x hx; obtain rfl := List.mem_singleton.1 hx; omega), (by rw [take_rd hm0 (by omega), ← cntV_step (by omega) (by omega), ← hV])⟩, (by omega), (Sub.cons rfl (Sub.cons rfl (Sub.cons rfl (Sub.cons rfl Sub.nil)))), fun _ h => h⟩
    ·
      refine w_exit ?_
      refine w_seq ?_
      refine w_reg ?_
      refine wr_y rfl (y_move rfl) ?_
      refine wr_y rfl (y_assign rfl) ?_
      refine wr_y rfl (y_assign rfl) ?_
      refine wr_nil ?_
      refine w_retR (R1 := []) (fun _ h => h.sel [] (by decide) rfl) ?_
      refine ⟨_, _, rfl, rfl, ?_⟩
      exact absurd ⟨by omega, by rw [List.take_of_length_le (by omega)] at hall; exact hall⟩ hno

/-! whorl/whorlref13.Ints -/
set_option maxRecDepth 100000 in
theorem ints13_ct {w : World} {A_s : Option Addr} {n_s c_s : Nat} {s : List Int} {k : Int} (h_s : Rd w A_s n_s c_s 1 (ints .i64 s)) (hok : (0 ≤ k ∧ k ≤ 1048576) ∧ ∀ x ∈ s, 0 ≤ x ∧ x < k) (hN : s.length ≤ 100000) :
    Ct Try.prog 20 #[.slice A_s n_s c_s, .int .i64 k] w.heap.size w [] (fun v R' => ∃ (b : List Int) (A : Option Addr) (c : Nat), v = .tuple #[.slice A s.length c, .int .i64 0] ∧ b.Perm (iota s.length) ∧ b.Pairwise (ordE s) ∧ R' = [⟨3, 1, A, s.length, c, ints .i64 b, false⟩]) := by
  obtain rfl := h_s.lenI
  refine fn2 Try.func20 rfl rfl rfl ?_
  have m_s := h_s.max
  refine w_seq ?_
  refine w_reg ?_
  refine wr_y rfl (y_assign rfl) ?_
  refine wr_y rfl (y_assign rfl) ?_
  refine wr_nil ?_
  refine w_seq ?_
  refine w_seq ?_
  refine w_reg ?_
  refine wr_y rfl (y_move rfl) ?_
  refine wr_y rfl (y_len Try.underlying22 rfl) ?_
  refine wr_y rfl (Yl.f (y_gt rfl rfl) (by omega)) ?_
  refine wr_nil ?_
  refine w_false rfl ?_
  refine w_skip ?_
  refine w_seq ?_
  refine w_reg ?_
  refine wr_y rfl (y_move rfl) ?_
  refine wr_y rfl (y_move rfl) ?_
  refine wr_a rfl (a_callF en39 rfl (Ct.fresh (fun w hw => counts10_ct ((h_s.c _) w hw) (by first | assumption | omega | decide)))) ?_
  rintro _ _ ⟨_, rfl, A_1, c_2, rfl, rfl⟩
  refine wr_y rfl (y_move rfl) ?_
  refine wr_y rfl (y_extract rfl rfl) ?_
  refine wr_y rfl (y_extract rfl rfl) ?_
  refine wr_y rfl (y_assign rfl) ?_
  refine wr_y rfl (y_assign rfl) ?_
  refine wr_nil ?_
  refine w_seq ?_
  refine w_seq ?_
  refine w_reg ?_
  refine wr_y rfl (y_move rfl) ?_
  refine wr_y rfl (y_not rfl) ?_
  refine wr_nil ?_
  refine w_false rfl ?_
  refine w_skip ?_
  refine w_seq ?_
  refine w_reg ?_
  refine wr_y rfl (y_move rfl) ?_
  refine wr_a rfl (a_callF en34 rfl (Ct.fresh (fun w hw => order13_ct ((h_s.c _) w hw) (by first | assumption | omega | decide)))) ?_
  rintro _ _ ⟨_, rfl, b1, A_4, c_5, rfl, hp_b1, hs_b1, rfl⟩
  refine wr_y rfl (y_assign rfl) ?_
  refine wr_y rfl (y_assign rfl) ?_
  refine wr_nil ?_
  refine w_retR (R1 := [⟨3, 1, A_4, s.length, c_5, ints .i64 b1, false⟩]) (fun _ h => h.sel [0] (by decide) rfl) ?_
  refine ⟨_, _, rfl, rfl, ?_⟩
  exact ⟨b1, _, _, rfl, hp_b1, hs_b1, rfl⟩

/-! whorl/whorlref13.Ints -/
set_option maxRecDepth 100000 in
theorem ints13no_ct {w : World} {A_s : Option Addr} {n_s c_s : Nat} {s : List Int} {k : Int} (h_s : Rd w A_s n_s c_s 1 (ints .i64 s)) (hno : ¬ ((0 ≤ k ∧ k ≤ 1048576) ∧ ∀ x ∈ s, 0 ≤ x ∧ x < k)) (hN : s.length ≤ 100000) :
    Ct Try.prog 20 #[.slice A_s n_s c_s, .int .i64 k] w.heap.size w [] (fun v R' => v = .tuple #[.slice none 0 0, .int .i64 1]) := by
  obtain rfl := h_s.lenI
  refine fn2 Try.func20 rfl rfl rfl ?_
  have m_s := h_s.max
  refine w_seq ?_
  refine w_reg ?_
  refine wr_y rfl (y_assign rfl) ?_
  refine wr_y rfl (y_assign rfl) ?_
  refine wr_nil ?_
  refine w_seq ?_
  refine w_seq ?_
  refine w_reg ?_
  refine wr_y rfl (y_move rfl) ?_
  refine wr_y rfl (y_len Try.underlying22 rfl) ?_
  refine wr_y rfl (Yl.f (y_gt rfl rfl) (by omega)) ?_
  refine wr_nil ?_
  refine w_false rfl ?_
  refine w_skip ?_
  refine w_seq ?_
  refine w_reg ?_
  refine wr_y rfl (y_move rfl) ?_
  refine wr_y rfl (y_move rfl) ?_
  refine wr_a rfl (a_callF en39 rfl (Ct.quiet (fun w hw => counts10No_ct ((h_s.c _) w hw) hno))) ?_
  rintro _ _ ⟨rfl, rfl⟩
  refine wr_y rfl (y_move rfl) ?_
  refine wr_y rfl (y_extract rfl rfl) ?_
  refine wr_y rfl (y_extract rfl rfl) ?_
  refine wr_y rfl (y_assign rfl) ?_
  refine wr_y rfl (y_assign rfl) ?_
  refine wr_nil ?_
  refine w_seq ?_
  refine w_seq ?_
  refine w_reg ?_
  refine wr_y rfl (y_move rfl) ?_
  refine wr_y rfl (y_not rfl) ?_
  refine wr_nil ?_
  refine w_true rfl ?_
  refine w_seq ?_
  refine w_reg ?_
  refine wr_y rfl (y_assign rfl) ?_
  refine wr_y rfl (y_assign rfl) ?_
  refine wr_nil ?_
  refine w_ret ?_
  refine ⟨_, _, rfl, rfl, ?_⟩
  rfl

/-! whorl/whorlref15.cut -/
set_option maxRecDepth 100000 in
theorem cut15_ct {w : World} {A_s : Option Addr} {n_s c_s : Nat} {s : List Int} {i : Int} {h : Int} (h_s : Rd w A_s n_s c_s 1 (ints .i64 s)) (hi : 0 ≤ i ∧ i ≤ s.length) (hh : 0 ≤ h) (hN : s.length ≤ 1000000) :
    Ct Try.prog 44 #[.slice A_s n_s c_s, .int .i64 i, .int .i64 h] w.heap.size w [] (fun v R' => v = .slice (cutA A_s i.toNat c_s 1) ((i + min h ((s.length : Int) - i)).toNat - i.toNat) (c_s - i.toNat)) := by
  obtain rfl := h_s.lenI
  refine fn1 Try.func44 rfl rfl rfl ?_
  have m_s := h_s.max
  refine w_seq ?_
  refine w_reg ?_
  refine wr_y rfl (y_assign rfl) ?_
  refine wr_nil ?_
  refine w_seq ?_
  refine w_reg ?_
  refine wr_y rfl (y_move rfl) ?_
  refine wr_y rfl (y_move rfl) ?_
  refine wr_y rfl (y_move rfl) ?_
  refine wr_y rfl (y_move rfl) ?_
  refine wr_y rfl (y_move rfl) ?_
  refine wr_y rfl (y_len Try.underlying22 rfl) ?_
  refine wr_y rfl (y_move rfl) ?_
  refine wr_y rfl (y_subI rfl rfl (by omega)) ?_
  refine wr_y rfl (y_min rfl rfl) ?_
  refine wr_y rfl (y_addI rfl rfl (by omega)) ?_
  refine wr_y rfl (y_slice Try.underlying22 sz3 rfl rfl rfl (h_s.c _) (by omega) (by omega) (by omega)) ?_
  refine wr_y rfl (y_assign rfl) ?_
  refine wr_nil ?_
  refine w_ret ?_
  refine ⟨_, rfl, ?_⟩
  rfl

theorem cut_eq {s : List Int} {i h : Int} (h0 : 0 ≤ i) (hh : 0 ≤ h) (hi : i ≤ s.length) : (s.drop i.toNat).take ((i + min h ((s.length : Int) - i)).toNat - i.toNat) = cutE s i.toNat h.toNat := by
  unfold cutE
  rcases Int.le_total h ((s.length : Int) - i) with a | a
  · congr 1
    omega
  · rw [List.take_of_length_le (by rw [List.length_drop]; omega), List.take_of_length_le (by rw [List.length_drop]; omega)]
theorem rkS_part {s : List Int} {h i : Nat} {k : Int} (k0 : 0 ≤ k) : ((List.range (k + 1).toNat).countP fun q => decide (cmpL (cutE s q h) (cutE s i h) < 0)) = ((List.range k.toNat).countP fun q => decide (cmpL (cutE s q h) (cutE s i h) < 0)) + if cmpL (cutE s k.toNat h) (cutE s i h) < 0 then 1 else 0 := by
  rw [show (k + 1).toNat = k.toNat + 1 by omega, List.range_succ, List.countP_append, List.countP_singleton]
  simp only [decide_eq_true_eq]
theorem rkL_take {s : List Int} {h : Nat} {i : Int} (h0 : 0 ≤ i) (hi : i < s.length) : (rkL s h).take (i + 1).toNat = (rkL s h).take i.toNat ++ [(rkS s h i.toNat : Int)] := by
  rw [take_rd h0 (by rw [rkL_len]; exact hi), rd_rkL h0 hi]
/-! whorl/whorlref15.Ranks -/
set_option maxRecDepth 100000 in
theorem ref15_ct {w : World} {A_s : Option Addr} {n_s c_s : Nat} {s : List Int} {h : Int} (h_s : Rd w A_s n_s c_s 1 (ints .i64 s)) (h0 : 0 ≤ h) (hN : s.length ≤ 100000) :
    Ct Try.prog 26 #[.slice A_s n_s c_s, .int .i64 h] w.heap.size w [] (fun v R' => ∃ A c, v = .slice A (rkL s h.toNat).length c ∧ R' = [⟨3, 1, A, (rkL s h.toNat).length, c, ints .i64 (rkL s h.toNat), false⟩]) := by
  obtain rfl := h_s.lenI
  refine fn1 Try.func26 rfl rfl rfl ?_
  have m_s := h_s.max
  refine w_seq ?_
  refine w_reg ?_
  refine wr_y rfl (y_assign rfl) ?_
  refine wr_nil ?_
  refine w_seq ?_
  refine w_seq ?_
  refine w_reg ?_
  refine wr_y rfl (y_move rfl) ?_
  refine wr_y rfl (y_lt rfl rfl) ?_
  refine wr_y rfl (y_move rfl) ?_
  refine wr_mid 4 [(0, .slice A_s s.length c_s), (1, .int .i64 h), (15, .bool (decide ((h < 0) ∨ (100000 < ((s.length : Nat) : Int)))))] [] ?_ ?_
  ·
    refine wr_case 11 rfl (fun hc1 => ?_) (fun hc1 => ?_)
    ·
      refine wr_no rfl rfl rfl rfl ?_
      refine wr_no rfl rfl rfl rfl ?_
      refine wr_no rfl rfl rfl rfl ?_
      refine wr_y rfl (y_pickT rfl rfl) ?_
      refine wr_nil ?_
      exact ⟨(Sub.cons rfl (Sub.cons rfl (Sub.to rfl (mb_t (by first | omega | exact ⟨fun h => ⟨(by assumption), h⟩, fun h => h.2⟩ | simp [*])) Sub.nil))), fun _ h => h⟩
    ·
      refine wr_yes rfl rfl ?_
      refine wr_y rfl (y_move rfl) ?_
      refine wr_yes rfl rfl ?_
      refine wr_y rfl (y_len Try.underlying22 rfl) ?_
      refine wr_yes rfl rfl ?_
      refine wr_y rfl (y_gt rfl rfl) ?_
      refine wr_y rfl (y_pickF rfl rfl) ?_
      refine wr_nil ?_
      exact ⟨(Sub.cons rfl (Sub.cons rfl (Sub.to rfl (mb (by first | omega | exact ⟨fun h => ⟨(by assumption), h⟩, fun h => h.2⟩ | simp [*])) Sub.nil))), fun _ h => h⟩
  refine wr_setF 15 rfl (by omega) ?_
  refine wr_nil ?_
  refine w_false rfl ?_
  refine w_skip ?_
  refine w_seq ?_
  refine w_reg ?_
  refine wr_sub (R1 := [⟨3, 1, none, 0, 0, ints .i64 ([]), false⟩]) (Sub.refl _) (fun _ h => h.nil 3 1) ?_
  refine wr_y rfl (y_assign rfl) ?_
  refine wr_nil ?_
  refine w_seq ?_
  refine w_seq ?_
  refine w_reg ?_
  refine wr_y rfl (y_assign rfl) ?_
  refine wr_nil ?_
  refine w_block ?_
  refine w_loop5 (fun (A1 : Option Addr) (n1 : Nat) (c1 : Nat) (acc : List Int) (i : Int) => [(0, .slice A_s s.length c_s), (1, .int .i64 h), (5, .slice A1 n1 c1), (6, .int .i64 i)]) (fun (A1 : Option Addr) (n1 : Nat) (c1 : Nat) (acc : List Int) (i : Int) => [⟨3, 1, A1, n1, c1, ints .i64 acc, false⟩]) (fun (A1 : Option Addr) (n1 : Nat) (c1 : Nat) (acc : List Int) (i : Int) => (n1 = acc.length) ∧ (0 ≤ i) ∧ (i ≤ s.length) ∧ (acc = (rkL s h.toNat).take i.toNat)) (fun (A1 : Option Addr) (n1 : Nat) (c1 : Nat) (acc : List Int) (i : Int) => (s.length - i).toNat) ?_ ?_
  ·
    exact ⟨none, 0, 0, [], 0, ⟨(rfl), (by omega), (by omega), (rfl)⟩, (Sub.cons rfl (Sub.cons rfl (Sub.cons rfl (Sub.cons rfl Sub.nil)))), fun _ h => h⟩
  intro A1 n1 c1 acc i ⟨hn1, hi0, hi1, hacc⟩
  refine w_seq ?_
  refine w_seq ?_
  refine w_reg ?_
  refine wr_y rfl (y_move rfl) ?_
  refine wr_y rfl (y_move rfl) ?_
  refine wr_y rfl (y_len Try.underlying22 rfl) ?_
  refine wr_y rfl (y_lt rfl rfl) ?_
  refine wr_nil ?_
  refine w_if rfl (fun hc2 => ?_) (fun hc2 => ?_)
  ·
    refine w_skip ?_
    refine w_seq ?_
    refine w_block ?_
    refine w_seq ?_
    refine w_reg ?_
    refine wr_y rfl (y_assign rfl) ?_
    refine wr_nil ?_
    refine w_seq ?_
    refine w_seq ?_
    refine w_reg ?_
    refine wr_y rfl (y_assign rfl) ?_
    refine wr_nil ?_
    refine w_block ?_
    refine w_loop2 (fun (k : Int) (n : Int) => [(0, .slice A_s s.length c_s), (1, .int .i64 h), (5, .slice A1 n1 c1), (6, .int .i64 i), (7, .int .i64 n), (8, .int .i64 k)]) (fun (k : Int) (n : Int) => [⟨3, 1, A1, n1, c1, ints .i64 acc, false⟩]) (fun (k : Int) (n : Int) => (0 ≤ k) ∧ (k ≤ s.length) ∧ (n ≤ k) ∧ (n = ((List.range k.toNat).countP fun q => decide (cmpL (cutE s q h.toNat) (cutE s i.toNat h.toNat) < 0) : Nat))) (fun (k : Int) (n : Int) => (s.length - k).toNat) ?_ ?_
    ·
      exact ⟨0, 0, ⟨(by omega), (by omega), (by omega), (rfl)⟩, (Sub.cons rfl (Sub.cons rfl (Sub.cons rfl (Sub.cons rfl (Sub.cons rfl (Sub.cons rfl Sub.nil)))))), fun _ h => h⟩
    intro k n ⟨hk0, hk1, hnk, hn⟩
    refine w_seq ?_
    refine w_seq ?_
    refine w_reg ?_
    refine wr_y rfl (y_move rfl) ?_
    refine wr_y rfl (y_move rfl) ?_
    refine wr_y rfl (y_len Try.underlying22 rfl) ?_
    refine wr_y rfl (y_lt rfl rfl) ?_
    refine wr_nil ?_
    refine w_if rfl (fun hc3 => ?_) (fun hc3 => ?_)
    ·
      refine w_skip ?_
      refine w_seq ?_
      refine w_block ?_
      refine w_seq ?_
      refine w_reg ?_
      refine wr_y rfl (y_move rfl) ?_
      refine wr_y rfl (y_move rfl) ?_
      refine wr_y rfl (y_move rfl) ?_
      refine wr_a rfl (a_callF en44 rfl (Ct.quiet (fun w hw => cut15_ct ((h_s.c _) w hw) (by omega) (by first | assumption | omega | decide) (by omega)))) ?_
      rintro _ _ ⟨rfl, rfl⟩
      refine wr_y rfl (y_move rfl) ?_
      refine wr_y rfl (y_move rfl) ?_
      refine wr_y rfl (y_move rfl) ?_
      refine wr_a rfl (a_callF en44 rfl (Ct.quiet (fun w hw => cut15_ct ((h_s.c _) w hw) (by omega) (by first | assumption | omega | decide) (by omega)))) ?_
      rintro _ _ ⟨rfl, rfl⟩
      refine wr_a rfl (a_callF en43 rfl (Ct.quiet (fun w hw => words11_ct ((RdC.cutI (h_s.c _) (by omega) (by omega)) w hw) ((RdC.cutI (h_s.c _) (by omega) (by omega)) w hw)))) ?_
      rintro _ _ ⟨rfl, rfl⟩
      refine wr_y rfl (y_lt rfl rfl) ?_
      refine wr_nil ?_
      refine w_if rfl (fun hc4 => ?_) (fun hc4 => ?_)
      ·
        have hlt' := hc4
        rw [cut_eq hk0 h0 (by omega), cut_eq hi0 h0 (by omega)] at hlt'
        refine w_reg ?_
        refine wr_y rfl (y_move rfl) ?_
        refine wr_y rfl (y_addI rfl rfl (by omega)) ?_
        refine wr_y rfl (y_assign rfl) ?_
        refine wr_nil ?_
        refine w_reg ?_
        refine wr_y rfl (y_move rfl) ?_
        refine wr_y rfl (y_addI rfl rfl (by omega)) ?_
        refine wr_y rfl (y_assign rfl) ?_
        refine wr_nil ?_
        exact ⟨k + 1, n + 1, ⟨(by omega), (by omega), (by omega), (by rw [rkS_part hk0, if_pos hlt', hn]; omega)⟩, (by omega), (Sub.cons rfl (Sub.cons rfl (Sub.cons rfl (Sub.cons rfl (Sub.cons rfl (Sub.cons rfl Sub.nil)))))), fun _ h => h⟩
      ·
        have hlt' := hc4
        rw [cut_eq hk0 h0 (by omega), cut_eq hi0 h0 (by omega)] at hlt'
        refine w_skip ?_
        refine w_reg ?_
        refine wr_y rfl (y_move rfl) ?_
        refine wr_y rfl (y_addI rfl rfl (by omega)) ?_
        refine wr_y rfl (y_assign rfl) ?_
        refine wr_nil ?_
        exact ⟨k + 1, n, ⟨(by omega), (by omega), (by omega), (by rw [rkS_part hk0, if_neg hlt', hn]; omega)⟩, (by omega), (Sub.cons rfl (Sub.cons rfl (Sub.cons rfl (Sub.cons rfl (Sub.cons rfl (Sub.cons rfl Sub.nil)))))), fun _ h => h⟩
    ·
      refine w_exit ?_
      refine w_reg ?_
      refine wr_y rfl (y_move rfl) ?_
      refine wr_y rfl (y_move rfl) ?_
      refine wr_a rfl (a_litI .i64 [n] Try.underlying22 zs3 rfl rfl rfl) ?_
      rintro _ _ ⟨g_2, rfl, rfl⟩
      refine wr_a rfl (a_appendI 1 rfl Try.underlying22 zb3 rfl rfl rfl (rdr 0 rfl) (by have := congrArg List.length hacc; rw [List.length_take, rkL_len] at this; omega)) ?_
      rintro _ _ ⟨A_3, c_4, rfl, rfl⟩
      refine wr_rows (R1 := [⟨3, 1, (some ⟨g_2, 0, none⟩), 1, 1, ints .i64 ([n]), false⟩, ⟨3, 1, A_3, (n1 + 1), c_4, ints .i64 (acc ++ ([n])), false⟩]) rfl ?_
      refine wr_as (v := .slice A_3 (n1 + 1) c_4) rfl ?_
      refine wr_y rfl (y_assign rfl) ?_
      refine wr_nil ?_
      refine w_reg ?_
      refine wr_y rfl (y_move rfl) ?_
      refine wr_y rfl (y_addI rfl rfl (by omega)) ?_
      refine wr_y rfl (y_assign rfl) ?_
      refine wr_nil ?_
      exact ⟨A_3, n1 + 1, c_4, acc ++ ([n]), i + 1, ⟨(by rw [List.length_append, hn1]; try rfl), (by omega), (by omega), (by rw [rkL_take hi0 (by omega), hacc, hn, show k.toNat = s.length by omega]; rfl)⟩, (by omega), (Sub.cons rfl (Sub.cons rfl (Sub.cons rfl (Sub.cons rfl Sub.nil)))), fun _ h => h.sel [1] (by decide) rfl⟩
  ·
    refine w_exit ?_
    refine w_seq ?_
    refine w_reg ?_
    refine wr_y rfl (y_move rfl) ?_
    refine wr_y rfl (y_assign rfl) ?_
    refine wr_nil ?_
    refine w_retR (R1 := [⟨3, 1, A1, n1, c1, ints .i64 acc, false⟩]) (fun _ h => h.sel [0] (by decide) rfl) ?_
    refine ⟨_, rfl, ?_⟩
    rw [List.take_of_length_le (by rw [rkL_len]; omega)] at hacc
    subst hacc
    obtain rfl := hn1
    exact ⟨_, _, rfl, rfl⟩

/-! whorl/whorlref15.Ranks -/
set_option maxRecDepth 100000 in
theorem ref15neg_ct {w : World} {A_s : Option Addr} {n_s c_s : Nat} {s : List Int} {h : Int} (h_s : Rd w A_s n_s c_s 1 (ints .i64 s)) (hneg : h < 0 ∨ 100000 < s.length) :
    Ct Try.prog 26 #[.slice A_s n_s c_s, .int .i64 h] w.heap.size w [] (fun v R' => v = .slice none 0 0) := by
  obtain rfl := h_s.lenI
  refine fn1 Try.func26 rfl rfl rfl ?_
  have m_s := h_s.max
  refine w_seq ?_
  refine w_reg ?_
  refine wr_y rfl (y_assign rfl) ?_
  refine wr_nil ?_
  refine w_seq ?_
  refine w_seq ?_
  refine w_reg ?_
  refine wr_y rfl (y_move rfl) ?_
  refine wr_y rfl (y_lt rfl rfl) ?_
  refine wr_y rfl (y_move rfl) ?_
  refine wr_mid 4 [(0, .slice A_s s.length c_s), (1, .int .i64 h), (15, .bool (decide ((h < 0) ∨ (100000 < ((s.length : Nat) : Int)))))] [] ?_ ?_
  ·
    refine wr_case 11 rfl (fun hc1 => ?_) (fun hc1 => ?_)
    ·
      refine wr_no rfl rfl rfl rfl ?_
      refine wr_no rfl rfl rfl rfl ?_
      refine wr_no rfl rfl rfl rfl ?_
      refine wr_y rfl (y_pickT rfl rfl) ?_
      refine wr_nil ?_
      exact ⟨(Sub.cons rfl (Sub.cons rfl (Sub.to rfl (mb_t (by first | omega | exact ⟨fun h => ⟨(by assumption), h⟩, fun h => h.2⟩ | simp [*])) Sub.nil))), fun _ h => h⟩
    ·
      refine wr_yes rfl rfl ?_
      refine wr_y rfl (y_move rfl) ?_
      refine wr_yes rfl rfl ?_
      refine wr_y rfl (y_len Try.underlying22 rfl) ?_
      refine wr_yes rfl rfl ?_
      refine wr_y rfl (y_gt rfl rfl) ?_
      refine wr_y rfl (y_pickF rfl rfl) ?_
      refine wr_nil ?_
      exact ⟨(Sub.cons rfl (Sub.cons rfl (Sub.to rfl (mb (by first | omega | exact ⟨fun h => ⟨(by assumption), h⟩, fun h => h.2⟩ | simp [*])) Sub.nil))), fun _ h => h⟩
  refine wr_setT 15 rfl (by omega) ?_
  refine wr_nil ?_
  refine w_true rfl ?_
  refine w_seq ?_
  refine w_reg ?_
  refine wr_y rfl (y_assign rfl) ?_
  refine wr_nil ?_
  refine w_ret ?_
  refine ⟨_, rfl, ?_⟩
  rfl

end Go.Proofs.Ytlagmdccneompaa
