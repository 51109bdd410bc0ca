/- Walks of Go functions, printed by a program of our own. -/
import Derived.Test.YtdfcnalkdlifiaaF6
import Derived.Test.YtdfcnalkdlifiaaQ9
import Derived.Test.YtdfcnalkdlifiaaE13
namespace Go.Proofs.Ytdfcnalkdlifiaa
open Go Go.Eng Go.Pure
set_option linter.unusedVariables false
/-! slices.Clone[[][2]int,[2]int] -/
set_option maxRecDepth 100000 in
theorem cloneP_ct {w : World} {A_l : Option Addr} {n_l c_l : Nat} {l : List (Int × Int)} (h_l : Rd w A_l n_l c_l 2 (prs l)) (hN : l.length ≤ 1000000) :
    Ct Try.prog 58 #[.slice A_l n_l c_l] w.heap.size w [] (fun v R' => ∃ A c, v = .slice A l.length c ∧ R' = [⟨51, 2, A, l.length, c, prs l, false⟩]) := by
  obtain rfl : n_l = l.length := by have := h_l.len; rw [prs_length] at this; omega
  refine fn1 Try.func58 rfl rfl rfl ?_
  refine w_seq ?_
  refine w_reg ?_
  refine wr_y rfl (y_assign rfl) ?_
  refine wr_nil ?_
  refine w_seq ?_
  refine w_seq ?_
  refine w_reg ?_
  refine wr_y rfl (y_move rfl) ?_
  refine wr_y rfl (y_slNil Try.underlying49 rfl rfl) ?_
  refine wr_nil ?_
  refine w_cond rfl (fun hc1 => ?_) (fun hc1 => ?_)
  ·
    refine w_seq ?_
    refine w_reg ?_
    refine wr_y rfl (y_assign rfl) ?_
    refine wr_nil ?_
    refine w_retR (R1 := [⟨51, 2, none, 0, 0, prs [], false⟩]) (fun _ h => h.nilP 51) ?_
    refine ⟨_, rfl, ?_⟩
    have hA : A_l = none := by simpa using hc1
    subst hA
    obtain rfl := prs_none h_l
    exact ⟨none, 0, rfl, rfl⟩
  ·
    refine w_skip ?_
    refine w_seq ?_
    refine w_reg ?_
    refine wr_a rfl (a_litP0 Try.underlying49 zs51) ?_
    rintro _ _ ⟨g_2, rfl, rfl⟩
    refine wr_y rfl (y_move rfl) ?_
    refine wr_a rfl (a_appendP 0 rfl Try.underlying49 zb51 rfl rfl rfl rfl (h_l.c _) (by omega)) ?_
    rintro _ _ ⟨A_3, c_4, rfl, rfl⟩
    refine wr_rows (R1 := [⟨51, 2, A_3, (0 + l.length), c_4, prs (([]) ++ l), false⟩]) rfl ?_
    refine wr_as (v := .slice A_3 (0 + l.length) c_4) rfl ?_
    refine wr_y rfl (y_assign rfl) ?_
    refine wr_nil ?_
    refine w_retR (R1 := [⟨51, 2, A_3, (0 + l.length), c_4, prs (([]) ++ l), false⟩]) (fun _ h => h) ?_
    refine ⟨_, rfl, ?_⟩
    simp only [Nat.zero_add, List.nil_append]
    exact ⟨_, _, rfl, rfl⟩

/-! whorl/omega.Turns -/
set_option maxRecDepth 100000 in
theorem turns_ct {w : World} {A_ws : Option Addr} {n_ws c_ws : Nat} {vals_ws : List Value} {ws : List (List Int)} (h_ws : Rd w A_ws n_ws c_ws 1 vals_ws) (s_ws : SlW .u8 w vals_ws ws) (hN : ws.flatten.length ≤ 400000 ∧ ws.length ≤ 1000000) :
    Ct Try.prog 36 #[.slice A_ws n_ws c_ws] w.heap.size w [] (fun v R' => ∃ (l : List (Int × Int)) (A : Option Addr) (c : Nat), v = .slice A l.length c ∧ l.Perm (tlist ws ws.length) ∧ l.Pairwise (ordO ws) ∧ R' = [⟨51, 2, A, l.length, c, prs l, false⟩]) := by
  obtain rfl : n_ws = ws.length := by have := h_ws.len; have := s_ws.1; omega
  refine fn1 Try.func36 rfl rfl rfl ?_
  have m_ws := h_ws.max
  have hfl := hN.1
  refine w_seq ?_
  refine w_reg ?_
  refine wr_y rfl (y_assign rfl) ?_
  refine wr_nil ?_
  refine w_seq ?_
  refine w_reg ?_
  refine wr_y rfl (y_move rfl) ?_
  refine wr_y rfl (y_build (v := .agg #[.slice A_ws ws.length c_ws, .slice none 0 0, .slice none 0 0, .slice none 0 0]) rfl (fun w => by kernel_rfl)) ?_
  refine wr_a rfl (a_box (sz := 4) rfl rfl) ?_
  rintro _ _ ⟨g_1, rfl, rfl⟩
  refine wr_sub (R1 := [⟨51, 2, none, 0, 0, prs ([]), false⟩, ⟨3, 1, none, 0, 0, ints .i64 ([]), false⟩, ⟨3, 1, none, 0, 0, ints .i64 ([]), false⟩, ⟨76, 4, (some ⟨g_1, 0, none⟩), 1, 1, [.slice A_ws ws.length c_ws, .slice none 0 0, .slice none 0 0, .slice none 0 0], false⟩]) (Sub.refl _) (fun _ h => ((h.nil 3 1).nil 3 1).nilP 51) ?_
  refine wr_y rfl (y_assign rfl) ?_
  refine wr_nil ?_
  refine w_seq ?_
  refine w_reg ?_
  refine wr_y rfl (y_assign rfl) ?_
  refine wr_nil ?_
  refine w_seq ?_
  refine w_seq ?_
  refine w_reg ?_
  refine wr_y rfl (y_move rfl) ?_
  refine wr_y rfl (y_len Try.underlying30 rfl) ?_
  refine wr_y rfl (y_move rfl) ?_
  refine wr_nil ?_
  refine w_block ?_
  refine w_loop14 (fun (k : Int) (lg : Int) (A1 : Option Addr) (n1 : Nat) (c1 : Nat) (T : List (Int × Int)) (A2 : Option Addr) (n2 : Nat) (c2 : Nat) (Bs : List Int) (A3 : Option Addr) (n3 : Nat) (c3 : Nat) (Rs : List Int) => [(3, .pointer (some ⟨g_1, 0, none⟩)), (4, .int .i64 lg), (16, .slice A_ws ws.length c_ws), (17, .int .i64 ((ws.length : Nat) : Int)), (18, .int .i64 k)]) (fun (k : Int) (lg : Int) (A1 : Option Addr) (n1 : Nat) (c1 : Nat) (T : List (Int × Int)) (A2 : Option Addr) (n2 : Nat) (c2 : Nat) (Bs : List Int) (A3 : Option Addr) (n3 : Nat) (c3 : Nat) (Rs : List Int) => [⟨51, 2, A1, n1, c1, prs T, false⟩, ⟨3, 1, A2, n2, c2, ints .i64 Bs, false⟩, ⟨3, 1, A3, n3, c3, ints .i64 Rs, false⟩, ⟨76, 4, (some ⟨g_1, 0, none⟩), 1, 1, [.slice A_ws ws.length c_ws, .slice A1 n1 c1, .slice A2 n2 c2, .slice A3 n3 c3], false⟩]) (fun (k : Int) (lg : Int) (A1 : Option Addr) (n1 : Nat) (c1 : Nat) (T : List (Int × Int)) (A2 : Option Addr) (n2 : Nat) (c2 : Nat) (Bs : List Int) (A3 : Option Addr) (n3 : Nat) (c3 : Nat) (Rs : List Int) => (0 ≤ k) ∧ (k ≤ ws.length) ∧ (0 ≤ lg ∧ lg ≤ 400000) ∧ (∀ w : Int, 0 ≤ w → w < k → ((rdl ws w).length : Int) ≤ lg) ∧ (lg = 0 ∧ offs ws k.toNat = 0 ∨ 0 < lg ∧ 0 < offs ws k.toNat) ∧ (T = tlist ws k.toNat) ∧ (n1 = offs ws k.toNat) ∧ (Bs = blist ws k.toNat) ∧ (n2 = k.toNat) ∧ (Rs = (ws.take k.toNat).flatten) ∧ (n3 = offs ws k.toNat)) (fun (k : Int) (lg : Int) (A1 : Option Addr) (n1 : Nat) (c1 : Nat) (T : List (Int × Int)) (A2 : Option Addr) (n2 : Nat) (c2 : Nat) (Bs : List Int) (A3 : Option Addr) (n3 : Nat) (c3 : Nat) (Rs : List Int) => (ws.length - k).toNat) ?_ ?_
  ·
    exact ⟨0, 0, none, 0, 0, [], none, 0, 0, [], none, 0, 0, [], ⟨(by omega), (by omega), (by omega), (fun w h0 h1 => by omega), (.inl ⟨rfl, rfl⟩), (rfl), (rfl), (rfl), (rfl), (rfl), (rfl)⟩, (Sub.cons rfl (Sub.cons rfl (Sub.cons rfl (Sub.cons rfl (Sub.cons rfl Sub.nil))))), fun _ h => h⟩
  intro k lg A1 n1 c1 T A2 n2 c2 Bs A3 n3 c3 Rs ⟨hk0, hk1, hg0, hlg, hge, hT, hnT, hBs, hnB, hRs, hnR⟩
  refine w_seq ?_
  refine w_reg ?_
  refine wr_y rfl (y_lt rfl rfl) ?_
  refine wr_nil ?_
  refine w_seq ?_
  refine w_if rfl (fun hc1 => ?_) (fun hc1 => ?_)
  ·
    have hofs := offs_succ hk0 (show k < ws.length by omega)
    have hole := offs_le ws (k + 1).toNat
    refine w_skip ?_
    refine w_seq ?_
    refine w_block ?_
    refine w_seq ?_
    refine w_reg ?_
    refine wr_y rfl (y_move rfl) ?_
    refine wr_y rfl (y_index1 Try.underlying30 sz22 rfl rfl (h_ws.c _) (by omega) (by omega)) ?_
    obtain ⟨A_2, c_3, hv_4, hr_5, hb_6, mhr_5⟩ := s_ws.at (i := k) (by omega) (by omega)
    refine wr_y rfl (y_ld Try.underlying22 rfl rfl rfl (h_ws.c _) hv_4) ?_
    refine wr_y rfl (y_assign rfl) ?_
    refine wr_y rfl (y_assign rfl) ?_
    refine wr_nil ?_
    refine w_seq ?_
    refine w_regd mixed ?_
    refine wd_y 0 rfl (by kernel_rfl) rfl (y_move rfl) ?_
    refine wd_y 1 rfl (by kernel_rfl) rfl (y_move rfl) ?_
    refine wd_y 2 rfl (by kernel_rfl) rfl (y_nilCheck rfl) ?_
    refine wd_y 3 rfl (by kernel_rfl) rfl (y_fieldAt (off := 2) (m := 2) Try.underlying76 rfl sz35 rfl rfl rfl) ?_
    refine wd_y 4 rfl (by kernel_rfl) rfl (y_ldIn (rdR 3 (r := ⟨76, 4, (some ⟨g_1, 0, none⟩), 1, 1, [.slice A_ws ws.length c_ws, .slice A1 n1 c1, .slice A2 n2 c2, .slice A3 n3 c3], false⟩) rfl) Try.underlying35 rfl rfl rfl) ?_
    refine wd_y 5 rfl (by kernel_rfl) rfl (y_move rfl) ?_
    refine wd_y 6 rfl (by kernel_rfl) rfl (y_nilCheck rfl) ?_
    refine wd_y 7 rfl (by kernel_rfl) rfl (y_fieldAt (off := 1) (m := 1) Try.underlying76 rfl sz49 rfl rfl rfl) ?_
    refine wd_y 8 rfl (by kernel_rfl) rfl (y_ldIn (rdR 3 (r := ⟨76, 4, (some ⟨g_1, 0, none⟩), 1, 1, [.slice A_ws ws.length c_ws, .slice A1 n1 c1, .slice A2 n2 c2, .slice A3 n3 c3], false⟩) rfl) Try.underlying49 rfl rfl rfl) ?_
    refine wd_y 9 rfl (by kernel_rfl) rfl (y_len Try.underlying49 rfl) ?_
    refine wd_a 10 rfl (by kernel_rfl) rfl (a_litI .i64 [((n1 : Nat) : Int)] Try.underlying35 zs3 rfl rfl rfl) ?_
    rintro _ _ ⟨g_8, rfl, rfl⟩
    refine ⟨.inr fun _ h => h.right (R' := [_]), ?_⟩
    refine wd_a 11 rfl (by kernel_rfl) rfl (a_appendI 2 rfl Try.underlying35 zb3 rfl rfl rfl (rdr 0 rfl) (by omega)) ?_
    rintro _ _ ⟨A_9, c_10, rfl, rfl⟩
    refine ⟨.inl (by kernel_rfl), ?_⟩
    refine wd_rows (R1 := [⟨3, 1, (some ⟨g_8, 0, none⟩), 1, 1, ints .i64 ([((n1 : Nat) : Int)]), false⟩, ⟨51, 2, A1, n1, c1, prs T, false⟩, ⟨3, 1, A_9, (n2 + 1), c_10, ints .i64 (Bs ++ ([((n1 : Nat) : Int)])), false⟩, ⟨3, 1, A3, n3, c3, ints .i64 Rs, false⟩, ⟨76, 4, (some ⟨g_1, 0, none⟩), 1, 1, [.slice A_ws ws.length c_ws, .slice A1 n1 c1, .slice A2 n2 c2, .slice A3 n3 c3], false⟩]) rfl ?_
    refine wd_as (v := .slice A_9 (n2 + 1) c_10) rfl ?_
    refine wd_y 12 rfl (by kernel_rfl) rfl (y_nilCheck rfl) ?_
    refine wd_y 13 rfl (by kernel_rfl) rfl (y_fieldAt (off := 2) (m := 2) Try.underlying76 rfl sz35 rfl rfl rfl) ?_
    refine wd_n 14 rfl (by kernel_rfl) (a_storeAt 4 rfl rfl rfl sz35 rfl rfl rfl rfl (Nat.le_of_ble_eq_true rfl)) ?_
    rintro _ _ rfl
    refine ⟨.inl (by kernel_rfl), ?_⟩
    refine wd_rows (R1 := [⟨3, 1, (some ⟨g_8, 0, none⟩), 1, 1, ints .i64 ([((n1 : Nat) : Int)]), false⟩, ⟨51, 2, A1, n1, c1, prs T, false⟩, ⟨3, 1, A_9, (n2 + 1), c_10, ints .i64 (Bs ++ ([((n1 : Nat) : Int)])), false⟩, ⟨3, 1, A3, n3, c3, ints .i64 Rs, false⟩, ⟨76, 4, (some ⟨g_1, 0, none⟩), 1, 1, [.slice A_ws ws.length c_ws, .slice A1 n1 c1, .slice A_9 (n2 + 1) c_10, .slice A3 n3 c3], false⟩]) rfl ?_
    refine wd_nil (by kernel_rfl) ?_
    refine w_seq ?_
    refine w_reg ?_
    refine wr_y rfl (y_move rfl) ?_
    refine wr_y rfl (y_move rfl) ?_
    refine wr_y rfl (y_len Try.underlying22 rfl) ?_
    refine wr_y rfl (y_max rfl rfl) ?_
    refine wr_y rfl (y_assign rfl) ?_
    refine wr_nil ?_
    refine w_seq ?_
    refine w_reg ?_
    refine wr_y rfl (y_move rfl) ?_
    refine wr_y rfl (y_len Try.underlying22 rfl) ?_
    refine wr_y rfl (y_move rfl) ?_
    refine wr_nil ?_
    refine w_block ?_
    refine w_loop9 (fun (j : Int) (B1 : Option Addr) (m1 : Nat) (d1 : Nat) (U : List (Int × Int)) (B3 : Option Addr) (m3 : Nat) (d3 : Nat) (V : List Int) => [(3, .pointer (some ⟨g_1, 0, none⟩)), (4, .int .i64 (max lg (((rdl ws k).length : Nat) : Int))), (5, .int .i64 k), (16, .slice A_ws ws.length c_ws), (17, .int .i64 ((ws.length : Nat) : Int)), (18, .int .i64 k), (41, .slice A_2 ((rdl ws k).length) c_3), (42, .int .i64 (((rdl ws k).length : Nat) : Int)), (43, .int .i64 j)]) (fun (j : Int) (B1 : Option Addr) (m1 : Nat) (d1 : Nat) (U : List (Int × Int)) (B3 : Option Addr) (m3 : Nat) (d3 : Nat) (V : List Int) => [⟨3, 1, (some ⟨g_8, 0, none⟩), 1, 1, ints .i64 ([((n1 : Nat) : Int)]), false⟩, ⟨51, 2, B1, m1, d1, prs U, false⟩, ⟨3, 1, A_9, (n2 + 1), c_10, ints .i64 (Bs ++ ([((n1 : Nat) : Int)])), false⟩, ⟨3, 1, B3, m3, d3, ints .i64 V, false⟩, ⟨76, 4, (some ⟨g_1, 0, none⟩), 1, 1, [.slice A_ws ws.length c_ws, .slice B1 m1 d1, .slice A_9 (n2 + 1) c_10, .slice B3 m3 d3], false⟩]) (fun (j : Int) (B1 : Option Addr) (m1 : Nat) (d1 : Nat) (U : List (Int × Int)) (B3 : Option Addr) (m3 : Nat) (d3 : Nat) (V : List Int) => (0 ≤ j) ∧ (j ≤ (rdl ws k).length) ∧ (U = tlist ws k.toNat ++ turnsOf k j.toNat) ∧ (m1 = offs ws k.toNat + j.toNat) ∧ (V = (ws.take k.toNat).flatten ++ (rdl ws k).take j.toNat) ∧ (m3 = offs ws k.toNat + j.toNat)) (fun (j : Int) (B1 : Option Addr) (m1 : Nat) (d1 : Nat) (U : List (Int × Int)) (B3 : Option Addr) (m3 : Nat) (d3 : Nat) (V : List Int) => ((rdl ws k).length - j).toNat) ?_ ?_
    ·
      exact ⟨0, A1, n1, c1, T, A3, n3, c3, Rs, ⟨(by omega), (by omega), (by rw [hT]; exact (List.append_nil _).symm), (hnT), (by rw [hRs]; exact (List.append_nil _).symm), (hnR)⟩, (Sub.cons rfl (Sub.cons rfl (Sub.cons rfl (Sub.cons rfl (Sub.cons rfl (Sub.cons rfl (Sub.cons rfl (Sub.cons rfl (Sub.cons rfl Sub.nil))))))))), fun _ h => h⟩
    intro j B1 m1 d1 U B3 m3 d3 V ⟨hj0, hj1, hU, hm1, hV, hm3⟩
    refine w_seq ?_
    refine w_reg ?_
    refine wr_y rfl (y_lt rfl rfl) ?_
    refine wr_nil ?_
    refine w_seq ?_
    refine w_if rfl (fun hc2 => ?_) (fun hc2 => ?_)
    ·
      refine w_skip ?_
      refine w_seq ?_
      refine w_block ?_
      refine w_seq ?_
      refine w_reg ?_
      refine wr_y rfl (y_move rfl) ?_
      refine wr_y rfl (y_index1 Try.underlying22 sz5 rfl rfl (hr_5.c _) (by omega) (by omega)) ?_
      refine wr_y rfl (y_ldI Try.underlying5 rfl rfl (hr_5.c _) (by omega) (by omega)) ?_
      refine wr_y rfl (y_assign rfl) ?_
      refine wr_y rfl (y_assign rfl) ?_
      refine wr_nil ?_
      refine w_seq ?_
      refine w_reg ?_
      refine wr_y rfl (y_move rfl) ?_
      refine wr_y rfl (y_move rfl) ?_
      refine wr_y rfl (y_nilCheck rfl) ?_
      refine wr_y rfl (y_fieldAt (off := 1) (m := 1) Try.underlying76 rfl sz49 rfl rfl rfl) ?_
      refine wr_y rfl (y_ldIn (rdR 4 (r := ⟨76, 4, (some ⟨g_1, 0, none⟩), 1, 1, [.slice A_ws ws.length c_ws, .slice B1 m1 d1, .slice A_9 (n2 + 1) c_10, .slice B3 m3 d3], false⟩) rfl) Try.underlying49 rfl rfl rfl) ?_
      refine wr_y rfl (y_move rfl) ?_
      refine wr_y rfl (y_move rfl) ?_
      refine wr_y rfl (y_build (v := .agg #[.int .i64 k, .int .i64 j]) rfl (fun w => by kernel_rfl)) ?_
      refine wr_a rfl (a_litP Try.underlying49 zs51 rfl) ?_
      rintro _ _ ⟨g_12, rfl, rfl⟩
      refine wr_a rfl (a_appendP 2 rfl Try.underlying49 zb51 rfl rfl rfl rfl (rdr 0 rfl) (by omega)) ?_
      rintro _ _ ⟨A_13, c_14, rfl, rfl⟩
      refine wr_rows (R1 := [⟨51, 2, (some ⟨g_12, 0, none⟩), 1, 1, prs ([(k, j)]), false⟩, ⟨3, 1, (some ⟨g_8, 0, none⟩), 1, 1, ints .i64 ([((n1 : Nat) : Int)]), false⟩, ⟨51, 2, A_13, (m1 + 1), c_14, prs (U ++ ([(k, j)])), false⟩, ⟨3, 1, A_9, (n2 + 1), c_10, ints .i64 (Bs ++ ([((n1 : Nat) : Int)])), false⟩, ⟨3, 1, B3, m3, d3, ints .i64 V, false⟩, ⟨76, 4, (some ⟨g_1, 0, none⟩), 1, 1, [.slice A_ws ws.length c_ws, .slice B1 m1 d1, .slice A_9 (n2 + 1) c_10, .slice B3 m3 d3], false⟩]) rfl ?_
      refine wr_as (v := .slice A_13 (m1 + 1) c_14) rfl ?_
      refine wr_y rfl (y_nilCheck rfl) ?_
      refine wr_y rfl (y_fieldAt (off := 1) (m := 1) Try.underlying76 rfl sz49 rfl rfl rfl) ?_
      refine wr_n (a_storeAt 5 rfl rfl rfl sz49 rfl rfl rfl rfl (Nat.le_of_ble_eq_true rfl)) ?_
      rintro _ _ rfl
      refine wr_rows (R1 := [⟨51, 2, (some ⟨g_12, 0, none⟩), 1, 1, prs ([(k, j)]), false⟩, ⟨3, 1, (some ⟨g_8, 0, none⟩), 1, 1, ints .i64 ([((n1 : Nat) : Int)]), false⟩, ⟨51, 2, A_13, (m1 + 1), c_14, prs (U ++ ([(k, j)])), false⟩, ⟨3, 1, A_9, (n2 + 1), c_10, ints .i64 (Bs ++ ([((n1 : Nat) : Int)])), false⟩, ⟨3, 1, B3, m3, d3, ints .i64 V, false⟩, ⟨76, 4, (some ⟨g_1, 0, none⟩), 1, 1, [.slice A_ws ws.length c_ws, .slice A_13 (m1 + 1) c_14, .slice A_9 (n2 + 1) c_10, .slice B3 m3 d3], false⟩]) rfl ?_
      refine wr_nil ?_
      refine w_reg ?_
      refine wr_y rfl (y_move rfl) ?_
      refine wr_y rfl (y_move rfl) ?_
      refine wr_y rfl (y_nilCheck rfl) ?_
      refine wr_y rfl (y_fieldAt (off := 3) (m := 3) Try.underlying76 rfl sz35 rfl rfl rfl) ?_
      refine wr_y rfl (y_ldIn (rdR 5 (r := ⟨76, 4, (some ⟨g_1, 0, none⟩), 1, 1, [.slice A_ws ws.length c_ws, .slice A_13 (m1 + 1) c_14, .slice A_9 (n2 + 1) c_10, .slice B3 m3 d3], false⟩) rfl) Try.underlying35 rfl rfl rfl) ?_
      refine wr_y rfl (y_move rfl) ?_
      refine wr_y rfl (y_convI Try.underlying5 Try.underlying3 rfl (by have hby := (byteL_wf (by assumption : ∀ x ∈ rdl ws k, (Lit.int .u8 x).wf = true)).rd j; omega)) ?_
      refine wr_a rfl (a_litI .i64 [rd (rdl ws k) j] Try.underlying35 zs3 rfl rfl rfl) ?_
      rintro _ _ ⟨g_16, rfl, rfl⟩
      refine wr_a rfl (a_appendI 5 rfl Try.underlying35 zb3 rfl rfl rfl (rdr 0 rfl) (by omega)) ?_
      rintro _ _ ⟨A_17, c_18, rfl, rfl⟩
      refine wr_rows (R1 := [⟨3, 1, (some ⟨g_16, 0, none⟩), 1, 1, ints .i64 ([rd (rdl ws k) j]), false⟩, ⟨51, 2, (some ⟨g_12, 0, none⟩), 1, 1, prs ([(k, j)]), false⟩, ⟨3, 1, (some ⟨g_8, 0, none⟩), 1, 1, ints .i64 ([((n1 : Nat) : Int)]), false⟩, ⟨51, 2, A_13, (m1 + 1), c_14, prs (U ++ ([(k, j)])), false⟩, ⟨3, 1, A_9, (n2 + 1), c_10, ints .i64 (Bs ++ ([((n1 : Nat) : Int)])), false⟩, ⟨3, 1, A_17, (m3 + 1), c_18, ints .i64 (V ++ ([rd (rdl ws k) j])), false⟩, ⟨76, 4, (some ⟨g_1, 0, none⟩), 1, 1, [.slice A_ws ws.length c_ws, .slice A_13 (m1 + 1) c_14, .slice A_9 (n2 + 1) c_10, .slice B3 m3 d3], false⟩]) rfl ?_
      refine wr_as (v := .slice A_17 (m3 + 1) c_18) rfl ?_
      refine wr_y rfl (y_nilCheck rfl) ?_
      refine wr_y rfl (y_fieldAt (off := 3) (m := 3) Try.underlying76 rfl sz35 rfl rfl rfl) ?_
      refine wr_n (a_storeAt 6 rfl rfl rfl sz35 rfl rfl rfl rfl (Nat.le_of_ble_eq_true rfl)) ?_
      rintro _ _ rfl
      refine wr_rows (R1 := [⟨3, 1, (some ⟨g_16, 0, none⟩), 1, 1, ints .i64 ([rd (rdl ws k) j]), false⟩, ⟨51, 2, (some ⟨g_12, 0, none⟩), 1, 1, prs ([(k, j)]), false⟩, ⟨3, 1, (some ⟨g_8, 0, none⟩), 1, 1, ints .i64 ([((n1 : Nat) : Int)]), false⟩, ⟨51, 2, A_13, (m1 + 1), c_14, prs (U ++ ([(k, j)])), false⟩, ⟨3, 1, A_9, (n2 + 1), c_10, ints .i64 (Bs ++ ([((n1 : Nat) : Int)])), false⟩, ⟨3, 1, A_17, (m3 + 1), c_18, ints .i64 (V ++ ([rd (rdl ws k) j])), false⟩, ⟨76, 4, (some ⟨g_1, 0, none⟩), 1, 1, [.slice A_ws ws.length c_ws, .slice A_13 (m1 + 1) c_14, .slice A_9 (n2 + 1) c_10, .slice A_17 (m3 + 1) c_18], false⟩]) rfl ?_
      refine wr_nil ?_
      refine w_reg ?_
      refine wr_y rfl (y_addI rfl rfl (by omega)) ?_
      refine wr_y rfl (y_move rfl) ?_
      refine wr_nil ?_
      exact ⟨j + 1, A_13, (m1 + 1), c_14, U ++ ([(k, j)]), A_17, (m3 + 1), c_18, V ++ ([rd (rdl ws k) j]), ⟨(by omega), (by omega), (by rw [hU, turnsOf_succ k hj0, List.append_assoc]), (by omega), (by rw [hV, List.append_assoc, take_rd hj0 (by omega)]), (by omega)⟩, (by omega), (Sub.cons rfl (Sub.cons rfl (Sub.cons rfl (Sub.cons rfl (Sub.cons rfl (Sub.cons rfl (Sub.cons rfl (Sub.cons rfl (Sub.cons rfl Sub.nil))))))))), fun _ h => h.sel [2, 3, 4, 5, 6] (by decide) rfl⟩
    ·
      refine w_exit ?_
      refine w_reg ?_
      refine wr_y rfl (y_addI rfl rfl (by omega)) ?_
      refine wr_y rfl (y_move rfl) ?_
      refine wr_nil ?_
      exact ⟨k + 1, max lg (((rdl ws k).length : Nat) : Int), B1, m1, d1, U, A_9, (n2 + 1), c_10, Bs ++ ([((n1 : Nat) : Int)]), B3, m3, d3, V, ⟨(by omega), (by omega), (by omega), (fun w h0 h1 => by
            by_cases hw : w = k
            · rw [hw]; omega
            · have := hlg w h0 (by omega); omega), (by have hofs := offs_succ hk0 (show k < ws.length by omega); omega), (by have hj : j.toNat = (rdl ws k).length := (by omega); rw [hU, hj, tlist_succ hk0]), (by rw [hm1, offs_succ hk0 (by omega)]; omega), (by rw [hBs, blist_succ hk0, hnT]), (by omega), (by have hj : j.toNat = (rdl ws k).length := (by omega); rw [hV, hj, List.take_length, flat_take_succ hk0 (by omega)]), (by rw [hm3, offs_succ hk0 (by omega)]; omega)⟩, (by omega), (Sub.cons rfl (Sub.cons rfl (Sub.cons rfl (Sub.cons rfl (Sub.cons rfl Sub.nil))))), fun _ h => h.sel [1, 2, 3, 4] (by decide) rfl⟩
  ·
    have hke : k = ws.length := by omega
    have hkn : k.toNat = ws.length := by omega
    rw [hkn] at hT hBs hRs hnT hnB hnR hge
    rw [List.take_length] at hRs
    have hoT := tlist_len ws ws.length (Nat.le_refl _)
    have hoB := blist_len ws ws.length
    have hoR : offs ws ws.length = ws.flatten.length := by unfold offs; rw [List.take_length]
    obtain rfl : n1 = T.length := by rw [hT]; omega
    obtain rfl : n2 = Bs.length := by rw [hBs]; omega
    obtain rfl : n3 = Rs.length := by rw [hRs]; omega
    have hTl : T.length ≤ 1000000 := by rw [hT]; omega
    refine w_exit ?_
    refine w_seq ?_
    refine w_reg ?_
    refine wr_y rfl (y_move rfl) ?_
    refine wr_y rfl (y_nilCheck rfl) ?_
    refine wr_y rfl (y_fieldAt (off := 1) (m := 1) Try.underlying76 rfl sz49 rfl rfl rfl) ?_
    refine wr_y rfl (y_ldIn (rdR 3 (r := ⟨76, 4, (some ⟨g_1, 0, none⟩), 1, 1, [.slice A_ws ws.length c_ws, .slice A1 T.length c1, .slice A2 Bs.length c2, .slice A3 Rs.length c3], false⟩) rfl) Try.underlying49 rfl rfl rfl) ?_
    refine wr_a rfl (a_callF en58 rfl (Ct.fresh (fun w hw => cloneP_ct ((rdr 0 rfl) w hw) hTl))) ?_
    rintro _ _ ⟨_, rfl, A_19, c_20, rfl, rfl⟩
    refine wr_y rfl (y_assign rfl) ?_
    refine wr_nil ?_
    refine w_seq ?_
    refine w_reg ?_
    refine wr_y rfl (y_assign rfl) ?_
    refine wr_nil ?_
    refine w_seq ?_
    refine w_seq ?_
    refine w_reg ?_
    refine wr_y rfl (y_assign rfl) ?_
    refine wr_nil ?_
    refine w_block ?_
    refine w_loop6 (fun (h : Int) (was : Int) (l : List (Int × Int)) (A4 : Option Addr) (c4 : Nat) (rs : List Int) => [(3, .pointer (some ⟨g_1, 0, none⟩)), (4, .int .i64 lg), (9, .slice A_19 T.length c_20), (10, .int .i64 was), (11, .int .i64 h)]) (fun (h : Int) (was : Int) (l : List (Int × Int)) (A4 : Option Addr) (c4 : Nat) (rs : List Int) => [⟨51, 2, A_19, T.length, c_20, prs l, false⟩, ⟨51, 2, A1, T.length, c1, prs T, false⟩, ⟨3, 1, A2, Bs.length, c2, ints .i64 Bs, false⟩, ⟨3, 1, A4, Rs.length, c4, ints .i64 rs, false⟩, ⟨76, 4, (some ⟨g_1, 0, none⟩), 1, 1, [.slice A_ws ws.length c_ws, .slice A1 T.length c1, .slice A2 Bs.length c2, .slice A4 Rs.length c4], false⟩]) (fun (h : Int) (was : Int) (l : List (Int × Int)) (A4 : Option Addr) (c4 : Nat) (rs : List Int) => (0 ≤ h) ∧ (l.Perm T) ∧ (rs.length = Rs.length) ∧ (RK ws Bs (curH h) rs) ∧ (0 < h → Sorted ws (curH h) l ∧ Go.Pure.Steps Bs rs l was)) (fun (h : Int) (was : Int) (l : List (Int × Int)) (A4 : Option Addr) (c4 : Nat) (rs : List Int) => (2 * lg - h).toNat) ?_ ?_
    ·
      exact ⟨0, -1, T, A3, c3, Rs, ⟨(by omega), (.refl _), (rfl), (by rw [hRs, hBs]; exact rk_first ws), (fun h => absurd h (by omega))⟩, (Sub.cons rfl (Sub.cons rfl (Sub.cons rfl (Sub.cons rfl (Sub.cons rfl Sub.nil))))), fun _ h => h⟩
    intro h was l A4 c4 rs ⟨hh0, hlp, hrl, hRK, hst⟩
    have htv : ∀ t ∈ l, TV ws t := fun t ht => mem_all.1 (by rw [← hT]; exact hlp.mem_iff.1 ht)
    have hvv : ∀ t ∈ l, TOk ws Bs rs.length t := fun t ht => by rw [hrl, hRs, hBs]; exact all_tok (by omega) (htv t ht)
    have hij : ∀ t ∈ l, ∀ u ∈ l, posT Bs t = posT Bs u → t = u := fun t ht u hu e => posT_inj (htv t ht) (htv u hu) (by rw [← hBs]; exact e)
    have hnd : l.Nodup := hlp.nodup_iff.2 (by rw [hT]; exact tlist_nodup ws _)
    have hrs : Rs.length = ws.flatten.length := by rw [hRs]
    have hll := hlp.length_eq
    have hTo : T.length = offs ws ws.length := by rw [hT]; exact hoT
    refine w_seq ?_
    refine w_seq ?_
    refine w_reg ?_
    refine wr_y rfl (y_move rfl) ?_
    refine wr_y rfl (y_move rfl) ?_
    refine wr_y rfl (y_mulI rfl rfl (by omega)) ?_
    refine wr_y rfl (y_lt rfl rfl) ?_
    refine wr_nil ?_
    refine w_if rfl (fun hc3 => ?_) (fun hc3 => ?_)
    ·
      have hne : l ≠ [] := fun e => by rw [e] at hll; simp only [List.length_nil] at hll; omega
      refine w_skip ?_
      refine w_seq ?_
      refine w_block ?_
      refine w_seq ?_
      refine w_reg ?_
      refine wr_y rfl (y_move rfl) ?_
      refine wr_y rfl (y_move rfl) ?_
      refine wr_y rfl (y_move rfl) ?_
      refine wr_sub (R1 := [⟨76, 4, (some ⟨g_1, 0, none⟩), 1, 1, [.slice A_ws ws.length c_ws, .slice A1 T.length c1, .slice A2 Bs.length c2, .slice A4 Rs.length c4], false⟩, ⟨51, 2, A_19, T.length, c_20, prs l, false⟩, ⟨3, 1, A2, Bs.length, c2, ints .i64 Bs, false⟩, ⟨3, 1, A4, Rs.length, c4, ints .i64 rs, false⟩, ⟨51, 2, A1, T.length, c1, prs T, false⟩]) (Sub.refl _) (fun _ h => h.sel [4, 0, 2, 3, 1] (by decide) rfl) ?_
      refine wr_a rfl (a_callF en59 rfl (doubles_ct (bs := Bs) (rs := rs) (ts := l) hll.symm rfl hrl.symm (h_ws.c _) (fun w hw => s_ws.c hw) hvv hij hnd hne ⟨by omega, by omega⟩ ⟨hh0, by omega⟩)) ?_
      rintro _ _ ⟨l_23, rk_24, A_21, c_22, rfl, hp_l_23, hs_l_23, hl_rk_24, hr_rk_24, rfl⟩
      have hs2 : Sorted ws (nextH h) l_23 := ⟨fun t ht => htv t (hp_l_23.mem_iff.1 ht), hp_l_23.nodup_iff.2 hnd, hs_l_23.imp_of_mem fun {x y} hx hy hn ho => hn ((tcmp_ord hh0 hRK (htv y (hp_l_23.mem_iff.1 hy)) (htv x (hp_l_23.mem_iff.1 hx))).2 ho)⟩
      have hall2 : ∀ t, TV ws t → t ∈ l_23 := fun t ht => hp_l_23.mem_iff.2 (hlp.mem_iff.2 (by rw [hT]; exact mem_all.2 ht))
      have hRK2 := rk_next hh0 hRK hs2 hall2 hr_rk_24
      have hst2 := steps_next hh0 hRK hs2 hr_rk_24
      have hcl := hp_l_23.length_eq
      refine wr_rows (R1 := [⟨76, 4, (some ⟨g_1, 0, none⟩), 1, 1, [.slice A_ws ws.length c_ws, .slice A1 T.length c1, .slice A2 Bs.length c2, .slice A_21 Rs.length c_22], false⟩, ⟨51, 2, A_19, T.length, c_20, prs l_23, false⟩, ⟨3, 1, A2, Bs.length, c2, ints .i64 Bs, false⟩, ⟨3, 1, A_21, Rs.length, c_22, ints .i64 rk_24, false⟩, ⟨51, 2, A1, T.length, c1, prs T, false⟩]) rfl ?_
      refine wr_y rfl (y_assign rfl) ?_
      refine wr_nil ?_
      refine w_seq ?_
      refine w_seq ?_
      refine w_reg ?_
      refine wr_y rfl (y_move rfl) ?_
      refine wr_y rfl (y_move rfl) ?_
      refine wr_y rfl (y_eq rfl rfl) ?_
      refine wr_y rfl (y_move rfl) ?_
      refine wr_mid 3 [(3, .pointer (some ⟨g_1, 0, none⟩)), (4, .int .i64 lg), (9, .slice A_19 T.length c_20), (11, .int .i64 h), (12, .int .i64 (clsF ws Bs rs h l_23 (l_23.length - 1))), (95, .bool (decide (((clsF ws Bs rs h l_23 (l_23.length - 1)) = was) ∧ (0 < h))))] [⟨76, 4, (some ⟨g_1, 0, none⟩), 1, 1, [.slice A_ws ws.length c_ws, .slice A1 T.length c1, .slice A2 Bs.length c2, .slice A_21 Rs.length c_22], false⟩, ⟨51, 2, A_19, T.length, c_20, prs l_23, false⟩, ⟨3, 1, A2, Bs.length, c2, ints .i64 Bs, false⟩, ⟨3, 1, A_21, Rs.length, c_22, ints .i64 rk_24, false⟩, ⟨51, 2, A1, T.length, c1, prs T, false⟩] ?_ ?_
      ·
        refine wr_case 92 rfl (fun hc4 => ?_) (fun hc4 => ?_)
        ·
          refine wr_yes rfl rfl ?_
          refine wr_y rfl (y_move rfl) ?_
          refine wr_yes rfl rfl ?_
          refine wr_y rfl (y_gt rfl rfl) ?_
          refine wr_y rfl (y_pickT rfl rfl) ?_
          refine wr_nil ?_
          exact ⟨(Sub.cons rfl (Sub.cons rfl (Sub.cons rfl (Sub.cons rfl (Sub.cons rfl (Sub.to rfl (mb (by first | omega | exact ⟨fun h => ⟨(by assumption), h⟩, fun h => h.2⟩ | simp [*])) Sub.nil)))))), fun _ h => h⟩
        ·
          refine wr_no rfl rfl rfl rfl ?_
          refine wr_no rfl rfl rfl rfl ?_
          refine wr_y rfl (y_pickF rfl rfl) ?_
          refine wr_nil ?_
          exact ⟨(Sub.cons rfl (Sub.cons rfl (Sub.cons rfl (Sub.cons rfl (Sub.cons rfl (Sub.to rfl (mb_f (by first | omega | exact ⟨fun h => ⟨(by assumption), h⟩, fun h => h.2⟩ | simp [*])) Sub.nil)))))), fun _ h => h⟩
      refine wr_nil ?_
      refine w_if rfl (fun hc5 => ?_) (fun hc5 => ?_)
      ·
        refine w_exit ?_
        refine w_seq ?_
        refine w_reg ?_
        refine wr_y rfl (y_move rfl) ?_
        refine wr_y rfl (y_assign rfl) ?_
        refine wr_nil ?_
        refine w_retR (R1 := [⟨51, 2, A_19, T.length, c_20, prs l_23, false⟩]) (fun _ h => h.sel [1] (by decide) rfl) ?_
        refine ⟨_, rfl, ?_⟩
        have hle : T.length = l_23.length := by omega
        rw [hle]
        refine ⟨l_23, _, _, rfl, ?_, ?_, rfl⟩
        · rw [← hT]; exact hp_l_23.trans hlp
        · exact stay hc5.2 hRK hs2 hall2 hp_l_23 (hst hc5.2).2 hc5.1
      ·
        refine w_skip ?_
        refine w_reg ?_
        refine wr_y rfl (y_move rfl) ?_
        refine wr_y rfl (y_assign rfl) ?_
        refine wr_nil ?_
        refine w_reg ?_
        refine wr_y rfl (y_move rfl) ?_
        refine wr_y rfl (y_mulI rfl rfl (by omega)) ?_
        refine wr_y rfl (y_max rfl rfl) ?_
        refine wr_y rfl (y_assign rfl) ?_
        refine wr_nil ?_
        exact ⟨max 1 (2 * h), clsF ws Bs rs h l_23 (l_23.length - 1), l_23, A_21, c_22, rk_24, ⟨(by omega), (hp_l_23.trans hlp), (by omega), (by have e : curH (max 1 (2 * h)) = nextH h := (by unfold curH nextH; split <;> omega); rw [e]; exact hRK2), (fun _ => by have e : curH (max 1 (2 * h)) = nextH h := (by unfold curH nextH; split <;> omega); rw [e]; exact ⟨hs2, hst2⟩)⟩, (by omega), (Sub.cons rfl (Sub.cons rfl (Sub.cons rfl (Sub.cons rfl (Sub.cons rfl Sub.nil))))), fun _ h => h.sel [1, 4, 2, 3, 0] (by decide) rfl⟩
    ·
      refine w_exit ?_
      refine w_seq ?_
      refine w_reg ?_
      refine wr_y rfl (y_move rfl) ?_
      refine wr_y rfl (y_assign rfl) ?_
      refine wr_nil ?_
      refine w_retR (R1 := [⟨51, 2, A_19, T.length, c_20, prs l, false⟩]) (fun _ h => h.sel [0] (by decide) rfl) ?_
      refine ⟨_, rfl, ?_⟩
      have hle : T.length = l.length := by omega
      rw [hle]
      refine ⟨l, _, _, rfl, ?_, ?_, rfl⟩
      · rw [← hT]; exact hlp
      · by_cases h0 : 0 < h
        · refine (hst h0).1.toO fun t u ht hu e => eq_all_long ht hu ?_ e
          have a := hlg t.1 ht.1 (by rw [hke]; exact ht.2.1)
          have b := hlg u.1 hu.1 (by rw [hke]; exact hu.2.1)
          unfold curH
          omega
        · have hl0 : l = [] := List.eq_nil_of_length_eq_zero (by omega)
          rw [hl0]
          exact .nil

end Go.Proofs.Ytdfcnalkdlifiaa
