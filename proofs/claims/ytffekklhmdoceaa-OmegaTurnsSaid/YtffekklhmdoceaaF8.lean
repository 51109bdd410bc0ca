/- Walks of Go functions, printed by a program of our own. -/
import Derived.Test.YtffekklhmdoceaaT
import Derived.Test.YtffekklhmdoceaaQ9
import Derived.Test.YtffekklhmdoceaaE14
namespace Go.Proofs.Ytffekklhmdoceaa
open Go Go.Eng Go.Pure
set_option linter.unusedVariables false
/-! whorl/whorlref4.Turn -/
set_option maxRecDepth 100000 in
theorem turn4_ct {w : World} {A_u : Option Addr} {n_u c_u : Nat} {u : List Int} {i : Int} (h_u : Rd w A_u n_u c_u 1 (ints .u8 u)) (hi : 0 ≤ i ∧ i ≤ u.length) (hN : u.length ≤ 1000000) :
    Ct Try.prog 37 #[.slice A_u n_u c_u, .int .i64 i] w.heap.size w [] (fun v R' => ∃ A c, v = .slice A (u.drop i.toNat ++ u.take i.toNat).length c ∧ R' = [⟨5, 1, A, (u.drop i.toNat ++ u.take i.toNat).length, c, ints .u8 (u.drop i.toNat ++ u.take i.toNat), false⟩]) := by
  obtain rfl := h_u.lenI
  refine fn1 Try.func37 rfl rfl rfl ?_
  have m_u := h_u.max
  refine w_seq ?_
  refine w_reg ?_
  refine wr_y rfl (y_assign rfl) ?_
  refine wr_nil ?_
  refine w_seq ?_
  refine w_regd mixed ?_
  refine wd_y 1 rfl (by kernel_rfl) rfl (y_move rfl) ?_
  refine wd_y 2 rfl (by kernel_rfl) rfl (y_move rfl) ?_
  refine wd_y 3 rfl (by kernel_rfl) rfl (y_sliceFrom Try.underlying22 sz5 rfl rfl (by omega) (by omega)) ?_
  refine wd_y 5 rfl (by kernel_rfl) rfl (y_move rfl) ?_
  refine wd_y 6 rfl (by kernel_rfl) rfl (y_move rfl) ?_
  refine wd_y 7 rfl (by kernel_rfl) rfl (y_sliceTo Try.underlying22 sz5 rfl rfl (h_u.c _) (by omega) (by omega)) ?_
  refine wd_a 0 rfl (by kernel_rfl) rfl (a_litI .u8 [] Try.underlying22 zs5 rfl rfl rfl) ?_
  rintro _ _ ⟨g_2, rfl, rfl⟩
  refine ⟨.inr fun _ h => h.right (R' := [_]), ?_⟩
  refine wd_a 4 rfl (by kernel_rfl) rfl (a_appendI 0 rfl Try.underlying22 zb5 rfl rfl rfl (RdC.fromI (h_u.c _) (by omega)) (by omega)) ?_
  rintro _ _ ⟨A_3, c_4, rfl, rfl⟩
  refine ⟨.inl (by kernel_rfl), ?_⟩
  refine wd_rows (R1 := [⟨5, 1, A_3, (0 + (u.length - (i).toNat)), c_4, ints .u8 (([]) ++ ((u).drop (i).toNat)), false⟩]) rfl ?_
  refine wd_as (v := .slice A_3 (0 + (u.length - (i).toNat)) c_4) rfl ?_
  refine wd_a 8 rfl (by kernel_rfl) rfl (a_appendI 0 rfl Try.underlying22 zb5 rfl rfl rfl (RdC.toI (h_u.c _) (by omega)) (by omega)) ?_
  rintro _ _ ⟨A_5, c_6, rfl, rfl⟩
  refine ⟨.inl (by kernel_rfl), ?_⟩
  refine wd_rows (R1 := [⟨5, 1, A_5, ((0 + (u.length - (i).toNat)) + ((i).toNat)), c_6, ints .u8 ((([]) ++ ((u).drop (i).toNat)) ++ ((u).take (i).toNat)), false⟩]) rfl ?_
  refine wd_as (v := .slice A_5 ((0 + (u.length - (i).toNat)) + ((i).toNat)) c_6) rfl ?_
  refine wd_y 9 rfl (by kernel_rfl) rfl (y_assign rfl) ?_
  refine wd_nil (by kernel_rfl) ?_
  refine w_retR (R1 := [⟨5, 1, A_5, ((0 + (u.length - (i).toNat)) + ((i).toNat)), c_6, ints .u8 ((([]) ++ ((u).drop (i).toNat)) ++ ((u).take (i).toNat)), false⟩]) (fun _ h => h.sel [0] (by decide) rfl) ?_
  refine ⟨_, rfl, ?_⟩
  have e : (0 + (u.length - i.toNat) + i.toNat) = (u.drop i.toNat ++ u.take i.toNat).length := by rw [List.length_append, List.length_drop, List.length_take]; omega
  simp only [List.nil_append, e]
  exact ⟨_, _, rfl, rfl⟩

/-! whorl/whorlref8.Same -/
set_option maxRecDepth 100000 in
theorem same8_ct {w : World} {A_l : Option Addr} {n_l c_l : Nat} {l : List (Int × Int)} {A_m : Option Addr} {n_m c_m : Nat} {m : List (Int × Int)} (h_l : Rd w A_l n_l c_l 2 (prs l)) (h_m : Rd w A_m n_m c_m 2 (prs m)) (hN : l.length ≤ 1000000) :
    Ct Try.prog 26 #[.slice A_l n_l c_l, .slice A_m n_m c_m] w.heap.size w [] (fun v R' => v = .bool (decide (l = m))) := by
  obtain rfl : n_l = l.length := by have := h_l.len; rw [prs_length] at this; omega
  obtain rfl : n_m = m.length := by have := h_m.len; rw [prs_length] at this; omega
  refine fn1 Try.func26 rfl rfl rfl ?_
  refine w_seq ?_
  refine w_reg ?_
  refine wr_y rfl (y_assign rfl) ?_
  refine wr_nil ?_
  refine w_seq ?_
  refine w_seq ?_
  refine w_reg ?_
  refine wr_y rfl (y_move rfl) ?_
  refine wr_y rfl (y_len Try.underlying48 rfl) ?_
  refine wr_y rfl (y_move rfl) ?_
  refine wr_y rfl (y_len Try.underlying48 rfl) ?_
  refine wr_y rfl (y_ne rfl rfl) ?_
  refine wr_nil ?_
  refine w_if rfl (fun hc1 => ?_) (fun hc1 => ?_)
  ·
    refine w_seq ?_
    refine w_reg ?_
    refine wr_y rfl (y_assign rfl) ?_
    refine wr_nil ?_
    refine w_ret ?_
    refine ⟨_, rfl, ?_⟩
    exact congrArg Value.bool (decide_eq_false (fun e => by rw [e] at hc1; exact hc1 rfl)).symm
  ·
    refine w_skip ?_
    refine w_seq ?_
    refine w_seq ?_
    refine w_reg ?_
    refine wr_y rfl (y_assign rfl) ?_
    refine wr_nil ?_
    refine w_block ?_
    refine w_loop1 (fun (k : Int) => [(0, .slice A_l l.length c_l), (1, .slice A_m m.length c_m), (5, .int .i64 k)]) (fun (k : Int) => []) (fun (k : Int) => (0 ≤ k) ∧ (k ≤ l.length) ∧ (l.take k.toNat = m.take k.toNat)) (fun (k : Int) => (l.length - k).toNat) ?_ ?_
    ·
      exact ⟨0, ⟨(by omega), (by omega), (rfl)⟩, (Sub.cons rfl (Sub.cons rfl (Sub.cons rfl Sub.nil))), fun _ h => h⟩
    intro k ⟨hk0, hk1, hq⟩
    refine w_seq ?_
    refine w_seq ?_
    refine w_reg ?_
    refine wr_y rfl (y_move rfl) ?_
    refine wr_y rfl (y_move rfl) ?_
    refine wr_y rfl (y_len Try.underlying48 rfl) ?_
    refine wr_y rfl (y_lt rfl rfl) ?_
    refine wr_nil ?_
    refine w_if rfl (fun hc2 => ?_) (fun hc2 => ?_)
    ·
      refine w_skip ?_
      refine w_seq ?_
      refine w_block ?_
      refine w_seq ?_
      refine w_regd mixed ?_
      refine wd_y 0 rfl (by kernel_rfl) rfl (y_move rfl) ?_
      refine wd_y 1 rfl (by kernel_rfl) rfl (y_move rfl) ?_
      refine wd_y 2 rfl (by kernel_rfl) rfl (y_index Try.underlying48 sz70 rfl rfl (h_l.c _) rfl (by omega) (by omega)) ?_
      refine wd_y 3 rfl (by kernel_rfl) rfl (y_ldP Try.underlying70 rfl sz70 rfl (h_l.c _) (by omega) (by omega)) ?_
      refine wd_y 4 rfl (by kernel_rfl) rfl (y_move rfl) ?_
      refine wd_y 5 rfl (by kernel_rfl) rfl (y_move rfl) ?_
      refine wd_y 6 rfl (by kernel_rfl) rfl (y_index Try.underlying48 sz70 rfl rfl (h_m.c _) rfl (by omega) (by omega)) ?_
      refine wd_y 7 rfl (by kernel_rfl) rfl (y_ldP Try.underlying70 rfl sz70 rfl (h_m.c _) (by omega) (by omega)) ?_
      refine wd_y 8 rfl (by kernel_rfl) rfl (y_nePair Try.underlying70 Try.underlying3 (fun w => by kernel_rfl) (by kernel_rfl) rfl rfl) ?_
      refine wd_nil (by kernel_rfl) ?_
      refine w_if rfl (fun hc3 => ?_) (fun hc3 => ?_)
      ·
        refine w_seq ?_
        refine w_reg ?_
        refine wr_y rfl (y_assign rfl) ?_
        refine wr_nil ?_
        refine w_ret ?_
        refine ⟨_, rfl, ?_⟩
        exact congrArg Value.bool (decide_eq_false (fun e => by subst e; exact hc3 rfl)).symm
      ·
        refine w_skip ?_
        refine w_reg ?_
        refine wr_y rfl (y_move rfl) ?_
        refine wr_y rfl (y_addI rfl rfl (by omega)) ?_
        refine wr_y rfl (y_assign rfl) ?_
        refine wr_nil ?_
        exact ⟨k + 1, ⟨(by omega), (by omega), (by rw [take_rdp hk0 (by omega), take_rdp hk0 (by omega), hq]; exact congrArg (fun z => List.take k.toNat m ++ [z]) (Decidable.not_not.1 (by assumption)))⟩, (by omega), (Sub.cons rfl (Sub.cons rfl (Sub.cons rfl Sub.nil))), fun _ h => h⟩
    ·
      refine w_exit ?_
      refine w_seq ?_
      refine w_reg ?_
      refine wr_y rfl (y_assign rfl) ?_
      refine wr_nil ?_
      refine w_ret ?_
      refine ⟨_, rfl, ?_⟩
      exact congrArg Value.bool (decide_eq_true (by rw [List.take_of_length_le (by omega), List.take_of_length_le (by omega)] at hq; exact hq)).symm

end Go.Proofs.Ytffekklhmdoceaa
