/- Walks of Go functions, printed by a program of our own. -/
import Derived.Test.YtlagmdccneompaaG1
import Derived.Test.YtlagmdccneompaaQ17
namespace Go.Proofs.Ytlagmdccneompaa
open Go Go.Eng Go.Pure
set_option linter.unusedVariables false
/-! whorl/double.on -/
set_option maxRecDepth 100000 in
theorem on15_ct {w : World} {A_l : Option Addr} {n_l c_l : Nat} {l : List Int} {i : Int} {h : Int} (h_l : Rd w A_l n_l c_l 1 (ints .i64 l)) (hb : (0 ≤ i ∧ i ≤ 1000000) ∧ (0 ≤ h ∧ h ≤ 1000000)) (hl : ∀ x ∈ l, 0 ≤ x ∧ x ≤ 1000000) :
    Ct Try.prog 63 #[.slice A_l n_l c_l, .int .i64 i, .int .i64 h] w.heap.size w [] (fun v R' => v = .int .i64 (onF l i h)) := by
  obtain rfl := h_l.lenI
  refine fn1 Try.func63 rfl rfl rfl ?_
  have m_l := h_l.max
  refine w_seq ?_
  refine w_reg ?_
  refine wr_y rfl (y_assign rfl) ?_
  refine wr_nil ?_
  refine w_seq ?_
  refine w_seq ?_
  refine w_reg ?_
  refine wr_y rfl (y_move rfl) ?_
  refine wr_y rfl (y_move rfl) ?_
  refine wr_y rfl (y_addI rfl rfl (by omega)) ?_
  refine wr_y rfl (y_move rfl) ?_
  refine wr_y rfl (y_len Try.underlying22 rfl) ?_
  refine wr_y rfl (y_ge rfl rfl) ?_
  refine wr_nil ?_
  refine w_if rfl (fun hc1 => ?_) (fun hc1 => ?_)
  ·
    refine w_seq ?_
    refine w_reg ?_
    refine wr_y rfl (y_assign rfl) ?_
    refine wr_nil ?_
    refine w_ret ?_
    refine ⟨_, rfl, ?_⟩
    exact congrArg (Value.int .i64) (by unfold onF; rw [if_pos (by omega)])
  ·
    have hm := hl _ (rd_mem (L := l) (k := i + h) (by omega) (by omega))
    refine w_skip ?_
    refine w_seq ?_
    refine w_reg ?_
    refine wr_y rfl (y_move rfl) ?_
    refine wr_y rfl (y_move rfl) ?_
    refine wr_y rfl (y_move rfl) ?_
    refine wr_y rfl (y_addI rfl rfl (by omega)) ?_
    refine wr_y rfl (y_index1 Try.underlying22 sz3 rfl rfl (h_l.c _) (by omega) (by omega)) ?_
    refine wr_y rfl (y_ldI Try.underlying3 rfl rfl (h_l.c _) (by omega) (by omega)) ?_
    refine wr_y rfl (y_addI rfl rfl (by omega)) ?_
    refine wr_y rfl (y_assign rfl) ?_
    refine wr_nil ?_
    refine w_ret ?_
    refine ⟨_, rfl, ?_⟩
    exact congrArg (Value.int .i64) (by unfold onF; rw [if_neg (by omega)])

/-! whorl/double.joined -/
set_option maxRecDepth 100000 in
set_option maxHeartbeats 1200000 in
theorem joined_ct {w : World} {A_l : Option Addr} {n_l c_l : Nat} {l : List Int} {h : Int} {s : List Int} {n b : Nat} (h_l : Rd w A_l n_l c_l 1 (ints .i64 l)) (hl : l = rkL s n) (hh : h = b) (hn : 0 < n) (hb : b ≤ n) (hN : s.length ≤ 100000 ∧ n ≤ 100000) :
    Ct Try.prog 42 #[.slice A_l n_l c_l, .int .i64 h] w.heap.size w [] (fun v R' => ∃ A c A' c', v = .tuple #[.slice A s.length c, .slice A' s.length c'] ∧ R' = [⟨3, 1, A, s.length, c, ints .i64 (rkL s (n + b)), false⟩, ⟨3, 1, A', s.length, c', ints .i64 (joinO s n b), false⟩]) := by
  obtain rfl := h_l.lenI
  refine fn2 Try.func42 rfl rfl rfl ?_
  have m_l := h_l.max
  have hll : l.length = s.length := by rw [hl, rkL_len]
  refine w_seq ?_
  refine w_reg ?_
  refine wr_y rfl (y_assign rfl) ?_
  refine wr_y rfl (y_assign rfl) ?_
  refine wr_nil ?_
  refine w_seq ?_
  refine w_reg ?_
  refine wr_y rfl (y_move rfl) ?_
  refine wr_y rfl (y_len Try.underlying22 rfl) ?_
  refine wr_a rfl (a_makeN Try.underlying22 zb3 rfl rfl (by omega) (by omega) (by omega)) ?_
  rintro _ _ ⟨g_1, rfl, rfl⟩
  refine wr_rows (R1 := [⟨3, 1, (some ⟨g_1, 0, none⟩), l.length, l.length, ints .i64 (List.replicate l.length (0 : Int)), false⟩]) rfl ?_
  refine wr_as (v := .slice (some ⟨g_1, 0, none⟩) l.length l.length) rfl ?_
  refine wr_y rfl (y_assign rfl) ?_
  refine wr_nil ?_
  refine w_seq ?_
  refine w_reg ?_
  refine wr_y rfl (y_move rfl) ?_
  refine wr_y rfl (y_len Try.underlying22 rfl) ?_
  refine wr_a rfl (a_makeN Try.underlying22 zb3 rfl rfl (by omega) (by omega) (by omega)) ?_
  rintro _ _ ⟨g_2, rfl, rfl⟩
  refine wr_rows (R1 := [⟨3, 1, (some ⟨g_2, 0, none⟩), l.length, l.length, ints .i64 (List.replicate l.length (0 : Int)), false⟩, ⟨3, 1, (some ⟨g_1, 0, none⟩), l.length, l.length, ints .i64 (List.replicate l.length (0 : Int)), false⟩]) rfl ?_
  refine wr_as (v := .slice (some ⟨g_2, 0, none⟩) l.length l.length) rfl ?_
  refine wr_y rfl (y_assign rfl) ?_
  refine wr_nil ?_
  refine w_seq ?_
  refine w_seq ?_
  refine w_reg ?_
  refine wr_y rfl (y_move rfl) ?_
  refine wr_y rfl (y_len Try.underlying22 rfl) ?_
  refine wr_y rfl (y_move rfl) ?_
  refine wr_nil ?_
  refine w_block ?_
  refine w_loop3 (fun (i : Int) (O : List Int) (K : List Int) => [(0, .slice A_l l.length c_l), (1, .int .i64 h), (6, .slice (some ⟨g_1, 0, none⟩) l.length l.length), (7, .slice (some ⟨g_2, 0, none⟩) l.length l.length), (19, .int .i64 ((l.length : Nat) : Int)), (20, .int .i64 i)]) (fun (i : Int) (O : List Int) (K : List Int) => [⟨3, 1, (some ⟨g_2, 0, none⟩), l.length, l.length, ints .i64 K, false⟩, ⟨3, 1, (some ⟨g_1, 0, none⟩), l.length, l.length, ints .i64 O, false⟩]) (fun (i : Int) (O : List Int) (K : List Int) => (0 ≤ i) ∧ (i ≤ s.length) ∧ (O.length = s.length) ∧ (∀ j : Int, 0 ≤ j → j < i → rd O j = j) ∧ (K.length = s.length) ∧ (∀ j : Int, 0 ≤ j → j < i → rd K j = rkOn s n (j.toNat + b))) (fun (i : Int) (O : List Int) (K : List Int) => (s.length - i).toNat) ?_ ?_
  ·
    exact ⟨0, List.replicate l.length (0 : Int), List.replicate l.length (0 : Int), ⟨(by omega), (by omega), (by rw [List.length_replicate, hll]), (fun j h1 h2 => by omega), (by rw [List.length_replicate, hll]), (fun j h1 h2 => by omega)⟩, (Sub.cons rfl (Sub.cons rfl (Sub.cons rfl (Sub.cons rfl (Sub.cons rfl (Sub.cons rfl Sub.nil)))))), fun _ h => h⟩
  intro i O K ⟨hi0, hi1, hOl, hO, hKl, hK⟩
  refine w_seq ?_
  refine w_reg ?_
  refine wr_y rfl (y_lt rfl rfl) ?_
  refine wr_nil ?_
  refine w_seq ?_
  refine w_if rfl (fun hc1 => ?_) (fun hc1 => ?_)
  ·
    refine w_skip ?_
    refine w_seq ?_
    refine w_block ?_
    refine w_seq ?_
    refine w_reg ?_
    refine wr_y rfl (y_move rfl) ?_
    refine wr_y rfl (y_assign rfl) ?_
    refine wr_nil ?_
    refine w_reg ?_
    refine wr_y rfl (y_move rfl) ?_
    refine wr_y rfl (y_move rfl) ?_
    refine wr_y rfl (y_move rfl) ?_
    refine wr_y rfl (y_move rfl) ?_
    refine wr_y rfl (y_move rfl) ?_
    refine wr_y rfl (y_move rfl) ?_
    refine wr_y rfl (y_move rfl) ?_
    refine wr_y rfl (y_move rfl) ?_
    refine wr_a rfl (a_callF en63 rfl (Ct.quiet (fun w hw => on15_ct ((h_l.c _) w hw) ⟨by omega, by omega⟩ (fun x hx => by rw [hl] at hx; have := rkL_bd x hx; omega)))) ?_
    rintro _ _ ⟨rfl, rfl⟩
    refine wr_y rfl (y_index1 Try.underlying22 sz3 rfl rfl (rdr 1 rfl) (by omega) (by omega)) ?_
    refine wr_n (a_storeI 1 rfl sz3 rfl rfl (by omega) (by omega)) ?_
    rintro _ _ rfl
    refine wr_rows (R1 := [⟨3, 1, (some ⟨g_2, 0, none⟩), l.length, l.length, ints .i64 K, false⟩, ⟨3, 1, (some ⟨g_1, 0, none⟩), l.length, l.length, ints .i64 (upd O i i), false⟩]) rfl ?_
    refine wr_y rfl (y_index1 Try.underlying22 sz3 rfl rfl (rdr 0 rfl) (by omega) (by omega)) ?_
    refine wr_n (a_storeI 0 rfl sz3 rfl rfl (by omega) (by omega)) ?_
    rintro _ _ rfl
    refine wr_rows (R1 := [⟨3, 1, (some ⟨g_2, 0, none⟩), l.length, l.length, ints .i64 (upd K i (onF l i h)), false⟩, ⟨3, 1, (some ⟨g_1, 0, none⟩), l.length, l.length, ints .i64 (upd O i i), false⟩]) rfl ?_
    refine wr_nil ?_
    refine w_reg ?_
    refine wr_y rfl (y_addI rfl rfl (by omega)) ?_
    refine wr_y rfl (y_move rfl) ?_
    refine wr_nil ?_
    exact ⟨i + 1, upd O i i, upd K i (onF l i h), ⟨(by omega), (by omega), (by rw [upd_length]; exact hOl), (fill_step (f := fun j => j) hi0 (by omega) hO rfl), (by rw [upd_length]; exact hKl), (fill_step (f := fun j => (rkOn s n (j.toNat + b) : Int)) hi0 (by omega) hK (by rw [hh, hl]; exact onF_rk hi0 (by omega)))⟩, (by omega), (Sub.cons rfl (Sub.cons rfl (Sub.cons rfl (Sub.cons rfl (Sub.cons rfl (Sub.cons rfl Sub.nil)))))), fun _ h => h⟩
  ·
    obtain rfl : O = iota s.length := iota_of hOl (fun j h1 h2 => hO j h1 (by omega))
    obtain rfl : K = onL s n b := onL_of hKl (fun j h1 h2 => hK j h1 (by omega))
    have hlen1 : (passK (iota s.length) (onL s n b) (((l.length : Nat) : Int) + 1).toNat).length = s.length := by rw [show (((l.length : Nat) : Int) + 1).toNat = s.length + 1 by omega, (join_perm1 s n b).length_eq, iota_len]
    refine w_exit ?_
    refine w_seq ?_
    refine w_reg ?_
    refine wr_y rfl (y_move rfl) ?_
    refine wr_y rfl (y_move rfl) ?_
    refine wr_y rfl (y_move rfl) ?_
    refine wr_y rfl (y_len Try.underlying22 rfl) ?_
    refine wr_y rfl (y_addI rfl rfl (by omega)) ?_
    refine wr_a rfl (a_callF en64 rfl (Ct.fresh (fun w hw => pass_ct ((rdr 1 rfl) w hw) ((rdr 0 rfl) w hw) (by omega) (fun x hx => by have := onL_bd x hx; omega) (fun x hx => by have := mem_iota.1 hx; rw [onL_len]; omega) (by rw [iota_len]; omega)))) ?_
    rintro _ _ ⟨_, rfl, A_3, c_4, rfl, rfl⟩
    refine wr_y rfl (y_move rfl) ?_
    refine wr_y rfl (y_extract rfl rfl) ?_
    refine wr_y rfl (y_extract rfl rfl) ?_
    refine wr_y rfl (y_assign rfl) ?_
    refine wr_nil ?_
    refine w_seq ?_
    refine w_reg ?_
    refine wr_y rfl (y_move rfl) ?_
    refine wr_y rfl (y_move rfl) ?_
    refine wr_y rfl (y_move rfl) ?_
    refine wr_y rfl (y_len Try.underlying22 rfl) ?_
    refine wr_a rfl (a_callF en64 rfl (Ct.fresh (fun w hw => pass_ct ((rdr 0 rfl) w hw) ((h_l.c _) w hw) (by omega) (fun x hx => by rw [hl] at hx; have := rkL_bd x hx; omega) (fun x hx => by rw [show (((l.length : Nat) : Int) + 1).toNat = s.length + 1 by omega] at hx; have := mem_iota.1 ((join_perm1 s n b).subset hx); omega) (by rw [hlen1]; omega)))) ?_
    rintro _ _ ⟨_, rfl, A_7, c_8, rfl, rfl⟩
    refine wr_y rfl (y_move rfl) ?_
    refine wr_y rfl (y_extract rfl rfl) ?_
    refine wr_y rfl (y_extract rfl rfl) ?_
    refine wr_y rfl (y_assign rfl) ?_
    refine wr_nil ?_
    refine w_seq ?_
    refine w_reg ?_
    refine wr_y rfl (y_move rfl) ?_
    refine wr_y rfl (y_len Try.underlying22 rfl) ?_
    refine wr_a rfl (a_makeN Try.underlying22 zb3 rfl rfl (by omega) (by omega) (by omega)) ?_
    rintro _ _ ⟨g_11, rfl, rfl⟩
    refine wr_rows (R1 := [⟨3, 1, (some ⟨g_11, 0, none⟩), l.length, l.length, ints .i64 (List.replicate l.length (0 : Int)), false⟩, ⟨3, 1, A_7, (((passK (iota s.length) (onL s n b) ((((l.length : Nat) : Int) + 1)).toNat)).length), c_8, ints .i64 (passK (passK (iota s.length) (onL s n b) ((((l.length : Nat) : Int) + 1)).toNat) l (((l.length : Nat) : Int)).toNat), false⟩, ⟨3, 1, A_3, (((iota s.length)).length), c_4, ints .i64 (passK (iota s.length) (onL s n b) ((((l.length : Nat) : Int) + 1)).toNat), false⟩, ⟨3, 1, (some ⟨g_2, 0, none⟩), l.length, l.length, ints .i64 (onL s n b), false⟩, ⟨3, 1, (some ⟨g_1, 0, none⟩), l.length, l.length, ints .i64 (iota s.length), false⟩]) rfl ?_
    refine wr_as (v := .slice (some ⟨g_11, 0, none⟩) l.length l.length) rfl ?_
    refine wr_y rfl (y_assign rfl) ?_
    refine wr_nil ?_
    refine w_seq ?_
    refine w_seq ?_
    refine w_reg ?_
    refine wr_y rfl (y_move rfl) ?_
    refine wr_y rfl (y_len Try.underlying22 rfl) ?_
    refine wr_y rfl (y_move rfl) ?_
    refine wr_nil ?_
    refine w_block ?_
    refine w_loop3 (fun (p : Int) (D : List Int) (V : List Int) => [(0, .slice A_l l.length c_l), (6, .slice A_7 (((passK (iota s.length) (onL s n b) ((((l.length : Nat) : Int) + 1)).toNat)).length) c_8), (7, .slice (some ⟨g_2, 0, none⟩) l.length l.length), (9, .slice (some ⟨g_11, 0, none⟩) l.length l.length), (55, .slice A_7 (((passK (iota s.length) (onL s n b) ((((l.length : Nat) : Int) + 1)).toNat)).length) c_8), (56, .int .i64 ((((passK (iota s.length) (onL s n b) ((((l.length : Nat) : Int) + 1)).toNat)).length : Nat) : Int)), (57, .int .i64 p)]) (fun (p : Int) (D : List Int) (V : List Int) => [⟨3, 1, (some ⟨g_11, 0, none⟩), l.length, l.length, ints .i64 V, false⟩, ⟨3, 1, A_7, (((passK (iota s.length) (onL s n b) ((((l.length : Nat) : Int) + 1)).toNat)).length), c_8, ints .i64 D, false⟩, ⟨3, 1, A_3, (((iota s.length)).length), c_4, ints .i64 (passK (iota s.length) (onL s n b) ((((l.length : Nat) : Int) + 1)).toNat), false⟩, ⟨3, 1, (some ⟨g_2, 0, none⟩), l.length, l.length, ints .i64 (onL s n b), false⟩, ⟨3, 1, (some ⟨g_1, 0, none⟩), l.length, l.length, ints .i64 (iota s.length), false⟩]) (fun (p : Int) (D : List Int) (V : List Int) => (0 ≤ p) ∧ (p ≤ s.length) ∧ (D = joinO s n b) ∧ (V.length = s.length) ∧ (∀ q : Int, 0 ≤ q → q < p → rd V (rd D q) = rkS s (n + b) (rd D q).toNat)) (fun (p : Int) (D : List Int) (V : List Int) => (s.length - p).toNat) ?_ ?_
    ·
      exact ⟨0, passK (passK (iota s.length) (onL s n b) ((((l.length : Nat) : Int) + 1)).toNat) l (((l.length : Nat) : Int)).toNat, List.replicate l.length (0 : Int), ⟨(by omega), (by omega), (by rw [hl, rkL_len]; unfold joinO; rw [show ((s.length : Int) + 1).toNat = s.length + 1 by omega, Int.toNat_natCast]), (by rw [List.length_replicate, hll]), (fun q h1 h2 => by omega)⟩, (Sub.cons rfl (Sub.cons rfl (Sub.cons rfl (Sub.cons rfl (Sub.cons rfl (Sub.cons rfl (Sub.cons rfl Sub.nil))))))), fun _ h => h⟩
    intro p D V ⟨hp0, hp1, hD, hVl, hV⟩
    refine w_seq ?_
    refine w_reg ?_
    refine wr_y rfl (y_lt rfl rfl) ?_
    refine wr_nil ?_
    refine w_seq ?_
    refine w_if rfl (fun hc2 => ?_) (fun hc2 => ?_)
    ·
      have hm := joinO_mem (s := s) (n := n) (b := b) hp0 (by omega)
      rw [← hD] at hm
      refine w_skip ?_
      refine w_seq ?_
      refine w_block ?_
      refine w_seq ?_
      refine w_reg ?_
      refine wr_y rfl (y_move rfl) ?_
      refine wr_y rfl (y_index1 Try.underlying22 sz3 rfl rfl (rdr 1 rfl) (by omega) (by omega)) ?_
      refine wr_y rfl (y_ldI Try.underlying3 rfl rfl (rdr 1 rfl) (by omega) (by omega)) ?_
      refine wr_y rfl (y_assign rfl) ?_
      refine wr_y rfl (y_assign rfl) ?_
      refine wr_nil ?_
      refine w_seq ?_
      refine w_reg ?_
      refine wr_y rfl (y_move rfl) ?_
      refine wr_y rfl (y_move rfl) ?_
      refine wr_y rfl (y_move rfl) ?_
      refine wr_y rfl (y_index1 Try.underlying22 sz3 rfl rfl (rdr 0 rfl) (by omega) (by omega)) ?_
      refine wr_n (a_storeI 0 rfl sz3 rfl rfl (by omega) (by omega)) ?_
      rintro _ _ rfl
      refine wr_rows (R1 := [⟨3, 1, (some ⟨g_11, 0, none⟩), l.length, l.length, ints .i64 (upd V (rd D p) p), false⟩, ⟨3, 1, A_7, (((passK (iota s.length) (onL s n b) ((((l.length : Nat) : Int) + 1)).toNat)).length), c_8, ints .i64 D, false⟩, ⟨3, 1, A_3, (((iota s.length)).length), c_4, ints .i64 (passK (iota s.length) (onL s n b) ((((l.length : Nat) : Int) + 1)).toNat), false⟩, ⟨3, 1, (some ⟨g_2, 0, none⟩), l.length, l.length, ints .i64 (onL s n b), false⟩, ⟨3, 1, (some ⟨g_1, 0, none⟩), l.length, l.length, ints .i64 (iota s.length), false⟩]) rfl ?_
      refine wr_nil ?_
      refine w_join0 [(0, .slice A_l l.length c_l), (6, .slice A_7 (((passK (iota s.length) (onL s n b) ((((l.length : Nat) : Int) + 1)).toNat)).length) c_8), (7, .slice (some ⟨g_2, 0, none⟩) l.length l.length), (9, .slice (some ⟨g_11, 0, none⟩) l.length l.length), (10, .int .i64 p), (11, .int .i64 (rd D p)), (55, .slice A_7 (((passK (iota s.length) (onL s n b) ((((l.length : Nat) : Int) + 1)).toNat)).length) c_8), (56, .int .i64 ((((passK (iota s.length) (onL s n b) ((((l.length : Nat) : Int) + 1)).toNat)).length : Nat) : Int)), (57, .int .i64 p), (97, .bool (decide ((0 < p) ∧ (((rd l (rd D (p - 1))) = (rd l (rd D p))) ∧ ((rd (onL s n b) (rd D (p - 1))) = (rd (onL s n b) (rd D p)))))))] [⟨3, 1, (some ⟨g_11, 0, none⟩), l.length, l.length, ints .i64 (upd V (rd D p) p), false⟩, ⟨3, 1, A_7, (((passK (iota s.length) (onL s n b) ((((l.length : Nat) : Int) + 1)).toNat)).length), c_8, ints .i64 D, false⟩, ⟨3, 1, A_3, (((iota s.length)).length), c_4, ints .i64 (passK (iota s.length) (onL s n b) ((((l.length : Nat) : Int) + 1)).toNat), false⟩, ⟨3, 1, (some ⟨g_2, 0, none⟩), l.length, l.length, ints .i64 (onL s n b), false⟩, ⟨3, 1, (some ⟨g_1, 0, none⟩), l.length, l.length, ints .i64 (iota s.length), false⟩] ?_ ?_
      ·
        refine w_regd mixed ?_
        refine wd_y 0 rfl (by kernel_rfl) rfl (y_move rfl) ?_
        refine wd_y 1 rfl (by kernel_rfl) rfl (y_gt rfl rfl) ?_
        refine wd_y 2 rfl (by kernel_rfl) rfl (y_move rfl) ?_
        refine wd_case 68 rfl (fun hc3 => ?_) (fun hc3 => ?_)
        ·
          refine wd_yg 3 rfl (by kernel_rfl) rfl rfl rfl (y_move rfl) ?_
          refine wd_yg 4 rfl (by kernel_rfl) rfl rfl rfl (y_move rfl) ?_
          refine wd_yg 5 rfl (by kernel_rfl) rfl rfl rfl (y_move rfl) ?_
          refine wd_yg 6 rfl (by kernel_rfl) rfl rfl rfl (y_subI rfl rfl (by omega)) ?_
          refine wd_yg 7 rfl (by kernel_rfl) rfl rfl rfl (y_index1 Try.underlying22 sz3 rfl rfl (rdr 1 rfl) (by omega) (by omega)) ?_
          refine wd_yg 8 rfl (by kernel_rfl) rfl rfl rfl (y_ldI Try.underlying3 rfl rfl (rdr 1 rfl) (by omega) (by omega)) ?_
          refine wd_yg 9 rfl (by kernel_rfl) rfl rfl rfl (y_index1 Try.underlying22 sz3 rfl rfl (h_l.c _) (by first | omega | (have hm1 := joinO_mem (s := s) (n := n) (b := b) (p := p - 1) (by omega) (by omega); rw [← hD] at hm1; omega)) (by first | omega | (have hm1 := joinO_mem (s := s) (n := n) (b := b) (p := p - 1) (by omega) (by omega); rw [← hD] at hm1; omega))) ?_
          refine wd_yg 10 rfl (by kernel_rfl) rfl rfl rfl (y_ldI Try.underlying3 rfl rfl (h_l.c _) (by first | omega | (have hm1 := joinO_mem (s := s) (n := n) (b := b) (p := p - 1) (by omega) (by omega); rw [← hD] at hm1; omega)) (by first | omega | (have hm1 := joinO_mem (s := s) (n := n) (b := b) (p := p - 1) (by omega) (by omega); rw [← hD] at hm1; omega))) ?_
          refine wd_yg 11 rfl (by kernel_rfl) rfl rfl rfl (y_move rfl) ?_
          refine wd_yg 12 rfl (by kernel_rfl) rfl rfl rfl (y_move rfl) ?_
          refine wd_yg 13 rfl (by kernel_rfl) rfl rfl rfl (y_index1 Try.underlying22 sz3 rfl rfl (h_l.c _) (by omega) (by omega)) ?_
          refine wd_yg 14 rfl (by kernel_rfl) rfl rfl rfl (y_ldI Try.underlying3 rfl rfl (h_l.c _) (by omega) (by omega)) ?_
          refine wd_yg 15 rfl (by kernel_rfl) rfl rfl rfl (y_eq rfl rfl) ?_
          refine wd_y 16 rfl (by kernel_rfl) rfl (y_pickT rfl rfl) ?_
          refine wd_y 17 rfl (by kernel_rfl) rfl (y_move rfl) ?_
          refine wd_case 83 rfl (fun hc4 => ?_) (fun hc4 => ?_)
          ·
            refine wd_yg 18 rfl (by kernel_rfl) rfl rfl rfl (y_move rfl) ?_
            refine wd_yg 19 rfl (by kernel_rfl) rfl rfl rfl (y_move rfl) ?_
            refine wd_yg 20 rfl (by kernel_rfl) rfl rfl rfl (y_move rfl) ?_
            refine wd_yg 21 rfl (by kernel_rfl) rfl rfl rfl (y_subI rfl rfl (by omega)) ?_
            refine wd_yg 22 rfl (by kernel_rfl) rfl rfl rfl (y_index1 Try.underlying22 sz3 rfl rfl (rdr 1 rfl) (by omega) (by omega)) ?_
            refine wd_yg 23 rfl (by kernel_rfl) rfl rfl rfl (y_ldI Try.underlying3 rfl rfl (rdr 1 rfl) (by omega) (by omega)) ?_
            refine wd_yg 24 rfl (by kernel_rfl) rfl rfl rfl (y_index1 Try.underlying22 sz3 rfl rfl (rdr 3 rfl) (by first | omega | (have hm1 := joinO_mem (s := s) (n := n) (b := b) (p := p - 1) (by omega) (by omega); rw [← hD] at hm1; omega)) (by first | omega | (have hm1 := joinO_mem (s := s) (n := n) (b := b) (p := p - 1) (by omega) (by omega); rw [← hD] at hm1; omega))) ?_
            refine wd_yg 25 rfl (by kernel_rfl) rfl rfl rfl (y_ldI Try.underlying3 rfl rfl (rdr 3 rfl) (by first | omega | (have hm1 := joinO_mem (s := s) (n := n) (b := b) (p := p - 1) (by omega) (by omega); rw [← hD] at hm1; omega)) (by first | omega | (have hm1 := joinO_mem (s := s) (n := n) (b := b) (p := p - 1) (by omega) (by omega); rw [← hD] at hm1; omega))) ?_
            refine wd_yg 26 rfl (by kernel_rfl) rfl rfl rfl (y_move rfl) ?_
            refine wd_yg 27 rfl (by kernel_rfl) rfl rfl rfl (y_move rfl) ?_
            refine wd_yg 28 rfl (by kernel_rfl) rfl rfl rfl (y_index1 Try.underlying22 sz3 rfl rfl (rdr 3 rfl) (by omega) (by omega)) ?_
            refine wd_yg 29 rfl (by kernel_rfl) rfl rfl rfl (y_ldI Try.underlying3 rfl rfl (rdr 3 rfl) (by omega) (by omega)) ?_
            refine wd_yg 30 rfl (by kernel_rfl) rfl rfl rfl (y_eq rfl rfl) ?_
            refine wd_y 31 rfl (by kernel_rfl) rfl (y_pickT rfl rfl) ?_
            refine wd_nil (by kernel_rfl) ?_
            exact ⟨(Sub.cons rfl (Sub.cons rfl (Sub.cons rfl (Sub.cons rfl (Sub.cons rfl (Sub.cons rfl (Sub.cons rfl (Sub.cons rfl (Sub.cons rfl (Sub.to rfl (mb (by first | omega | exact ⟨fun h => ⟨(by assumption), h⟩, fun h => h.2⟩ | simp [*])) Sub.nil)))))))))), fun _ h => h⟩
          ·
            refine wd_no 18 rfl (by kernel_rfl) rfl rfl rfl rfl ?_
            refine wd_no 19 rfl (by kernel_rfl) rfl rfl rfl rfl ?_
            refine wd_no 20 rfl (by kernel_rfl) rfl rfl rfl rfl ?_
            refine wd_no 21 rfl (by kernel_rfl) rfl rfl rfl rfl ?_
            refine wd_no 22 rfl (by kernel_rfl) rfl rfl rfl rfl ?_
            refine wd_no 23 rfl (by kernel_rfl) rfl rfl rfl rfl ?_
            refine wd_no 24 rfl (by kernel_rfl) rfl rfl rfl rfl ?_
            refine wd_no 25 rfl (by kernel_rfl) rfl rfl rfl rfl ?_
            refine wd_no 26 rfl (by kernel_rfl) rfl rfl rfl rfl ?_
            refine wd_no 27 rfl (by kernel_rfl) rfl rfl rfl rfl ?_
            refine wd_no 28 rfl (by kernel_rfl) rfl rfl rfl rfl ?_
            refine wd_no 29 rfl (by kernel_rfl) rfl rfl rfl rfl ?_
            refine wd_no 30 rfl (by kernel_rfl) rfl rfl rfl rfl ?_
            refine wd_y 31 rfl (by kernel_rfl) rfl (y_pickF rfl rfl) ?_
            refine wd_nil (by kernel_rfl) ?_
            exact ⟨(Sub.cons rfl (Sub.cons rfl (Sub.cons rfl (Sub.cons rfl (Sub.cons rfl (Sub.cons rfl (Sub.cons rfl (Sub.cons rfl (Sub.cons rfl (Sub.to rfl (mb_f (by first | omega | exact ⟨fun h => ⟨(by assumption), h⟩, fun h => h.2⟩ | simp [*])) Sub.nil)))))))))), fun _ h => h⟩
        ·
          refine wd_no 3 rfl (by kernel_rfl) rfl rfl rfl rfl ?_
          refine wd_no 4 rfl (by kernel_rfl) rfl rfl rfl rfl ?_
          refine wd_no 5 rfl (by kernel_rfl) rfl rfl rfl rfl ?_
          refine wd_no 6 rfl (by kernel_rfl) rfl rfl rfl rfl ?_
          refine wd_no 7 rfl (by kernel_rfl) rfl rfl rfl rfl ?_
          refine wd_no 8 rfl (by kernel_rfl) rfl rfl rfl rfl ?_
          refine wd_no 9 rfl (by kernel_rfl) rfl rfl rfl rfl ?_
          refine wd_no 10 rfl (by kernel_rfl) rfl rfl rfl rfl ?_
          refine wd_no 11 rfl (by kernel_rfl) rfl rfl rfl rfl ?_
          refine wd_no 12 rfl (by kernel_rfl) rfl rfl rfl rfl ?_
          refine wd_no 13 rfl (by kernel_rfl) rfl rfl rfl rfl ?_
          refine wd_no 14 rfl (by kernel_rfl) rfl rfl rfl rfl ?_
          refine wd_no 15 rfl (by kernel_rfl) rfl rfl rfl rfl ?_
          refine wd_y 16 rfl (by kernel_rfl) rfl (y_pickF rfl rfl) ?_
          refine wd_y 17 rfl (by kernel_rfl) rfl (y_move rfl) ?_
          refine wd_no 18 rfl (by kernel_rfl) rfl rfl rfl rfl ?_
          refine wd_no 19 rfl (by kernel_rfl) rfl rfl rfl rfl ?_
          refine wd_no 20 rfl (by kernel_rfl) rfl rfl rfl rfl ?_
          refine wd_no 21 rfl (by kernel_rfl) rfl rfl rfl rfl ?_
          refine wd_no 22 rfl (by kernel_rfl) rfl rfl rfl rfl ?_
          refine wd_no 23 rfl (by kernel_rfl) rfl rfl rfl rfl ?_
          refine wd_no 24 rfl (by kernel_rfl) rfl rfl rfl rfl ?_
          refine wd_no 25 rfl (by kernel_rfl) rfl rfl rfl rfl ?_
          refine wd_no 26 rfl (by kernel_rfl) rfl rfl rfl rfl ?_
          refine wd_no 27 rfl (by kernel_rfl) rfl rfl rfl rfl ?_
          refine wd_no 28 rfl (by kernel_rfl) rfl rfl rfl rfl ?_
          refine wd_no 29 rfl (by kernel_rfl) rfl rfl rfl rfl ?_
          refine wd_no 30 rfl (by kernel_rfl) rfl rfl rfl rfl ?_
          refine wd_y 31 rfl (by kernel_rfl) rfl (y_pickF rfl rfl) ?_
          refine wd_nil (by kernel_rfl) ?_
          exact ⟨(Sub.cons rfl (Sub.cons rfl (Sub.cons rfl (Sub.cons rfl (Sub.cons rfl (Sub.cons rfl (Sub.cons rfl (Sub.cons rfl (Sub.cons rfl (Sub.to rfl (mb_f (by first | omega | exact ⟨fun h => ⟨(by assumption), h⟩, fun h => h.2⟩ | simp [*])) Sub.nil)))))))))), fun _ h => h⟩
      refine w_if rfl (fun hc5 => ?_) (fun hc5 => ?_)
      ·
        refine w_reg ?_
        refine wr_y rfl (y_move rfl) ?_
        refine wr_y rfl (y_move rfl) ?_
        refine wr_y rfl (y_move rfl) ?_
        refine wr_y rfl (y_move rfl) ?_
        refine wr_y rfl (y_move rfl) ?_
        refine wr_y rfl (y_subI rfl rfl (by omega)) ?_
        refine wr_y rfl (y_index1 Try.underlying22 sz3 rfl rfl (rdr 1 rfl) (by omega) (by omega)) ?_
        refine wr_y rfl (y_ldI Try.underlying3 rfl rfl (rdr 1 rfl) (by omega) (by omega)) ?_
        refine wr_y rfl (y_index1 Try.underlying22 sz3 rfl rfl (rdr 0 rfl) (by first | omega | (have hm1 := joinO_mem (s := s) (n := n) (b := b) (p := p - 1) (by omega) (by omega); rw [← hD] at hm1; omega)) (by first | omega | (have hm1 := joinO_mem (s := s) (n := n) (b := b) (p := p - 1) (by omega) (by omega); rw [← hD] at hm1; omega))) ?_
        refine wr_y rfl (y_ldI Try.underlying3 rfl rfl (rdr 0 rfl) (by first | omega | (have hm1 := joinO_mem (s := s) (n := n) (b := b) (p := p - 1) (by omega) (by omega); rw [← hD] at hm1; omega)) (by first | omega | (have hm1 := joinO_mem (s := s) (n := n) (b := b) (p := p - 1) (by omega) (by omega); rw [← hD] at hm1; omega))) ?_
        refine wr_y rfl (y_index1 Try.underlying22 sz3 rfl rfl (rdr 0 rfl) (by omega) (by omega)) ?_
        refine wr_n (a_storeI 0 rfl sz3 rfl rfl (by omega) (by omega)) ?_
        rintro _ _ rfl
        refine wr_rows (R1 := [⟨3, 1, (some ⟨g_11, 0, none⟩), l.length, l.length, ints .i64 (upd (upd V (rd D p) p) (rd D p) (rd (upd V (rd D p) p) (rd D (p - 1)))), false⟩, ⟨3, 1, A_7, (((passK (iota s.length) (onL s n b) ((((l.length : Nat) : Int) + 1)).toNat)).length), c_8, ints .i64 D, false⟩, ⟨3, 1, A_3, (((iota s.length)).length), c_4, ints .i64 (passK (iota s.length) (onL s n b) ((((l.length : Nat) : Int) + 1)).toNat), false⟩, ⟨3, 1, (some ⟨g_2, 0, none⟩), l.length, l.length, ints .i64 (onL s n b), false⟩, ⟨3, 1, (some ⟨g_1, 0, none⟩), l.length, l.length, ints .i64 (iota s.length), false⟩]) rfl ?_
        refine wr_nil ?_
        refine w_reg ?_
        refine wr_y rfl (y_addI rfl rfl (by omega)) ?_
        refine wr_y rfl (y_move rfl) ?_
        refine wr_nil ?_
        exact ⟨p + 1, D, upd (upd V (rd D p) p) (rd D p) (rd (upd V (rd D p) p) (rd D (p - 1))), ⟨(by omega), (by omega), (by omega), (by rw [upd_length, upd_length]; exact hVl), (by subst hD; exact join_true hn hb hp0 (by omega) hVl hV (by rw [← hl, and_assoc]; exact hc5))⟩, (by omega), (Sub.cons rfl (Sub.cons rfl (Sub.cons rfl (Sub.cons rfl (Sub.cons rfl (Sub.cons rfl (Sub.cons rfl Sub.nil))))))), fun _ h => h⟩
      ·
        refine w_skip ?_
        refine w_reg ?_
        refine wr_y rfl (y_addI rfl rfl (by omega)) ?_
        refine wr_y rfl (y_move rfl) ?_
        refine wr_nil ?_
        exact ⟨p + 1, D, upd V (rd D p) p, ⟨(by omega), (by omega), (by omega), (by rw [upd_length]; exact hVl), (by subst hD; exact join_false hn hb hp0 (by omega) hVl hV (by rw [← hl, and_assoc]; exact hc5))⟩, (by omega), (Sub.cons rfl (Sub.cons rfl (Sub.cons rfl (Sub.cons rfl (Sub.cons rfl (Sub.cons rfl (Sub.cons rfl Sub.nil))))))), fun _ h => h⟩
    ·
      refine w_exit ?_
      refine w_seq ?_
      refine w_reg ?_
      refine wr_y rfl (y_move rfl) ?_
      refine wr_y rfl (y_move rfl) ?_
      refine wr_y rfl (y_assign rfl) ?_
      refine wr_y rfl (y_assign rfl) ?_
      refine wr_nil ?_
      refine w_retR (R1 := [⟨3, 1, (some ⟨g_11, 0, none⟩), l.length, l.length, ints .i64 V, false⟩, ⟨3, 1, A_7, (((passK (iota s.length) (onL s n b) ((((l.length : Nat) : Int) + 1)).toNat)).length), c_8, ints .i64 D, false⟩]) (fun _ h => h.sel [0, 1] (by decide) rfl) ?_
      refine ⟨_, _, rfl, rfl, ?_⟩
      have e2 : V = rkL s (n + b) := join_done hVl (fun q h1 h2 => by have := hV q h1 (by omega); rw [hD] at this; exact this)
      subst e2
      subst hD
      rw [hlen1, hll]
      exact ⟨_, _, _, _, rfl, rfl⟩

end Go.Proofs.Ytlagmdccneompaa
