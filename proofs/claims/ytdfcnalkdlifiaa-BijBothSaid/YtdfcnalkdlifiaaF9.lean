/- Walks of Go functions, printed by a program of our own. -/
import Derived.Test.YtdfcnalkdlifiaaF8
import Derived.Test.YtdfcnalkdlifiaaF7
import Derived.Test.YtdfcnalkdlifiaaQ11
import Derived.Test.YtdfcnalkdlifiaaE15
namespace Go.Proofs.Ytdfcnalkdlifiaa
open Go Go.Eng Go.Pure
set_option linter.unusedVariables false
theorem flat_ge {ws : List (List Int)} {k : Int} (h0 : 0 ≤ k) (h : k < ws.length) : (rdl ws k).length ≤ ws.flatten.length := by
  have a := offs_succ h0 h
  have b := offs_le ws (k + 1).toNat
  omega
theorem turn_le (u : List Int) (i : Nat) : (u.drop i ++ u.take i).length ≤ u.length := by
  rw [List.length_append, List.length_drop, List.length_take]
  omega
/-! whorl/whorlref8.Turns -/
set_option maxRecDepth 100000 in
set_option maxHeartbeats 400000 in
theorem turns8_ct {w : World} {A_ws : Option Addr} {n_ws c_ws : Nat} {vals_ws : List Value} {ws : List (List Int)} (h_ws : Rd w A_ws n_ws c_ws 1 vals_ws) (s_ws : SlW .u8 w vals_ws ws) (hN : ws.flatten.length ≤ 400000 ∧ ws.length ≤ 1000000) :
    Ct Try.prog 60 #[.slice A_ws n_ws c_ws] w.heap.size w [] (fun v R' => ∃ (l : List (Int × Int)) (A : Option Addr) (c : Nat), v = .slice A l.length c ∧ l.Perm (tlist ws ws.length) ∧ l.Pairwise (ordO ws) ∧ R' = [⟨51, 2, A, l.length, c, prs l, false⟩]) := by
  obtain rfl : n_ws = ws.length := by have := h_ws.len; have := s_ws.1; omega
  refine fn1 Try.func60 rfl rfl rfl ?_
  have m_ws := h_ws.max
  refine w_seq ?_
  refine w_reg ?_
  refine wr_y rfl (y_assign rfl) ?_
  refine wr_nil ?_
  refine w_seq ?_
  refine w_reg ?_
  refine wr_sub (R1 := [⟨51, 2, none, 0, 0, prs ([]), false⟩]) (Sub.refl _) (fun _ h => h.nilP 51) ?_
  refine wr_y rfl (y_assign rfl) ?_
  refine wr_nil ?_
  refine w_seq ?_
  refine w_seq ?_
  refine w_reg ?_
  refine wr_y rfl (y_assign rfl) ?_
  refine wr_nil ?_
  refine w_block ?_
  refine w_loop5 (fun (q : Int) (A1 : Option Addr) (n1 : Nat) (c1 : Nat) (T : List (Int × Int)) => [(0, .slice A_ws ws.length c_ws), (3, .slice A1 n1 c1), (4, .int .i64 q)]) (fun (q : Int) (A1 : Option Addr) (n1 : Nat) (c1 : Nat) (T : List (Int × Int)) => [⟨51, 2, A1, n1, c1, prs T, false⟩]) (fun (q : Int) (A1 : Option Addr) (n1 : Nat) (c1 : Nat) (T : List (Int × Int)) => (0 ≤ q) ∧ (q ≤ ws.length) ∧ (n1 = T.length) ∧ (T.Perm (tlist ws q.toNat)) ∧ (T.Pairwise (ordO ws))) (fun (q : Int) (A1 : Option Addr) (n1 : Nat) (c1 : Nat) (T : List (Int × Int)) => (ws.length - q).toNat) ?_ ?_
  ·
    exact ⟨0, none, 0, 0, [], ⟨(by omega), (by omega), (rfl), (.refl _), (.nil)⟩, (Sub.cons rfl (Sub.cons rfl (Sub.cons rfl Sub.nil))), fun _ h => h⟩
  intro q A1 n1 c1 T ⟨hw0, hw1, hn1, hp, hs⟩
  refine w_seq ?_
  refine w_seq ?_
  refine w_reg ?_
  refine wr_y rfl (y_move rfl) ?_
  refine wr_y rfl (y_move rfl) ?_
  refine wr_y rfl (y_len Try.underlying30 rfl) ?_
  refine wr_y rfl (y_lt rfl rfl) ?_
  refine wr_nil ?_
  refine w_if rfl (fun hc1 => ?_) (fun hc1 => ?_)
  ·
    refine w_skip ?_
    refine w_seq ?_
    refine w_block ?_
    refine w_seq ?_
    refine w_reg ?_
    refine wr_y rfl (y_assign rfl) ?_
    refine wr_nil ?_
    refine w_block ?_
    refine w_loop5 (fun (k : Int) (B1 : Option Addr) (m1 : Nat) (d1 : Nat) (U : List (Int × Int)) => [(0, .slice A_ws ws.length c_ws), (3, .slice B1 m1 d1), (4, .int .i64 q), (5, .int .i64 k)]) (fun (k : Int) (B1 : Option Addr) (m1 : Nat) (d1 : Nat) (U : List (Int × Int)) => [⟨51, 2, B1, m1, d1, prs U, false⟩]) (fun (k : Int) (B1 : Option Addr) (m1 : Nat) (d1 : Nat) (U : List (Int × Int)) => (0 ≤ k) ∧ (k ≤ (rdl ws q).length) ∧ (m1 = U.length) ∧ (U.Perm (tlist ws q.toNat ++ turnsOf q k.toNat)) ∧ (U.Pairwise (ordO ws))) (fun (k : Int) (B1 : Option Addr) (m1 : Nat) (d1 : Nat) (U : List (Int × Int)) => ((rdl ws q).length - k).toNat) ?_ ?_
    ·
      exact ⟨0, A1, n1, c1, T, ⟨(by omega), (by omega), (hn1), (by rw [show turnsOf q (0 : Int).toNat = [] from rfl, List.append_nil]; exact hp), (hs)⟩, (Sub.cons rfl (Sub.cons rfl (Sub.cons rfl (Sub.cons rfl Sub.nil)))), fun _ h => h⟩
    intro k B1 m1 d1 U ⟨hk0, hk1, hm1, hp1, hs1⟩
    refine w_seq ?_
    refine w_seq ?_
    refine w_reg ?_
    refine wr_y rfl (y_move rfl) ?_
    refine wr_y rfl (y_move rfl) ?_
    refine wr_y rfl (y_move rfl) ?_
    refine wr_y rfl (y_index1 Try.underlying30 sz22 rfl rfl (h_ws.c _) (by omega) (by omega)) ?_
    refine s_ws.elim (i := q) (by omega) (by omega) (fun A_1 c_2 hv_3 hr_4 hb_5 mhr_4 => ?_)
    refine wr_y rfl (y_ld Try.underlying22 rfl rfl rfl (h_ws.c _) hv_3) ?_
    refine wr_y rfl (y_len Try.underlying22 rfl) ?_
    refine wr_y rfl (y_lt rfl rfl) ?_
    refine wr_nil ?_
    refine w_if rfl (fun hc2 => ?_) (fun hc2 => ?_)
    ·
      refine w_skip ?_
      refine w_seq ?_
      refine w_block ?_
      refine w_seq ?_
      refine w_reg ?_
      refine wr_y rfl (y_move rfl) ?_
      refine wr_y rfl (y_move rfl) ?_
      refine wr_y rfl (y_index1 Try.underlying30 sz22 rfl rfl (h_ws.c _) (by omega) (by omega)) ?_
      refine s_ws.elim (i := q) (by omega) (by omega) (fun A_6 c_7 hv_8 hr_9 hb_10 mhr_9 => ?_)
      refine wr_y rfl (y_ld Try.underlying22 rfl rfl rfl (h_ws.c _) hv_8) ?_
      refine wr_y rfl (y_move rfl) ?_
      refine wr_a rfl (a_callF en28 rfl (Ct.fresh (fun w hw => turn4_ct ((hr_9.c _) w hw) (by omega) (by have := flat_ge (ws := ws) (k := q) hw0 (by omega); omega)))) ?_
      rintro _ _ ⟨_, rfl, A_11, c_12, rfl, rfl⟩
      refine wr_y rfl (y_assign rfl) ?_
      refine wr_nil ?_
      refine w_seq ?_
      refine w_reg ?_
      refine wr_y rfl (y_move rfl) ?_
      refine wr_y rfl (y_len Try.underlying49 rfl) ?_
      refine wr_y rfl (y_assign rfl) ?_
      refine wr_nil ?_
      refine w_seq ?_
      refine w_block ?_
      refine w_loop1 (fun (j : Int) => [(0, .slice A_ws ws.length c_ws), (3, .slice B1 m1 d1), (4, .int .i64 q), (5, .int .i64 k), (6, .slice A_11 (((rdl ws q).drop (k).toNat ++ (rdl ws q).take (k).toNat).length) c_12), (7, .int .i64 j)]) (fun (j : Int) => [⟨5, 1, A_11, ((rdl ws q).drop (k).toNat ++ (rdl ws q).take (k).toNat).length, c_12, ints .u8 ((rdl ws q).drop (k).toNat ++ (rdl ws q).take (k).toNat), false⟩, ⟨51, 2, B1, m1, d1, prs U, false⟩]) (fun (j : Int) => (0 ≤ j) ∧ (j ≤ U.length) ∧ (∀ i : Int, j ≤ i → i < U.length → ordO ws (q, k) (rdp U i))) (fun (j : Int) => j.toNat) ?_ ?_
      ·
        exact ⟨((m1 : Nat) : Int), ⟨(by omega), (by omega), (fun i h1 h2 => by omega)⟩, (Sub.cons rfl (Sub.cons rfl (Sub.cons rfl (Sub.cons rfl (Sub.cons rfl (Sub.cons rfl Sub.nil)))))), fun _ h => h⟩
      intro j ⟨hj0, hj1, hgt⟩
      have hUl : U.length ≤ 400000 := by rw [hp1.length_eq, List.length_append, tlist_len ws _ (by omega), turnsOf_len]; have a := offs_succ hw0 (show q < ws.length by omega); have b := offs_le ws (q + 1).toNat; omega
      have hmem := rdp_part (ws := ws) hw0 (by omega) (by omega) hp1
      have hmx : ∀ i : Int, 0 ≤ i → i < U.length → (rdl ws (rdp U i).1).length ≤ 1000000 := fun i h1 h2 => by have := flat_ge (ws := ws) (hmem i h1 h2).1.1 (hmem i h1 h2).1.2.1; omega
      refine w_seq ?_
      refine w_join0 [(0, .slice A_ws ws.length c_ws), (3, .slice B1 m1 d1), (4, .int .i64 q), (5, .int .i64 k), (6, .slice A_11 (((rdl ws q).drop (k).toNat ++ (rdl ws q).take (k).toNat).length) c_12), (7, .int .i64 j), (53, .bool (decide ((0 < j) ∧ ((cmpO ((rdl ws q).drop (k).toNat ++ (rdl ws q).take (k).toNat) ((rdl ws ((rdp U (j - 1)).1)).drop (((rdp U (j - 1)).2)).toNat ++ (rdl ws ((rdp U (j - 1)).1)).take (((rdp U (j - 1)).2)).toNat)) < 0))))] [⟨5, 1, A_11, ((rdl ws q).drop (k).toNat ++ (rdl ws q).take (k).toNat).length, c_12, ints .u8 ((rdl ws q).drop (k).toNat ++ (rdl ws q).take (k).toNat), false⟩, ⟨51, 2, B1, m1, d1, prs U, false⟩] ?_ ?_
      ·
        refine w_regd mixed ?_
        refine wd_y 0 rfl (by kernel_rfl) rfl (y_move rfl) ?_
        refine wd_y 1 rfl (by kernel_rfl) rfl (y_gt rfl rfl) ?_
        refine wd_y 2 rfl (by kernel_rfl) rfl (y_move rfl) ?_
        refine wd_case 33 rfl (fun hc3 => ?_) (fun hc3 => ?_)
        ·
          refine wd_yg 3 rfl (by kernel_rfl) rfl rfl rfl (y_move rfl) ?_
          refine wd_yg 4 rfl (by kernel_rfl) rfl rfl rfl (y_move rfl) ?_
          refine wd_yg 5 rfl (by kernel_rfl) rfl rfl rfl (y_move rfl) ?_
          refine wd_yg 6 rfl (by kernel_rfl) rfl rfl rfl (y_move rfl) ?_
          refine wd_yg 7 rfl (by kernel_rfl) rfl rfl rfl (y_subI rfl rfl (by omega)) ?_
          refine wd_yg 8 rfl (by kernel_rfl) rfl rfl rfl (y_index Try.underlying49 sz51 rfl rfl (rdr 1 rfl) rfl (by omega) (by omega)) ?_
          refine wd_yg 9 rfl (by kernel_rfl) rfl rfl rfl (y_pairAt (q := 0) Try.underlying51 sz3 rfl rfl (rdr 1 rfl) (by omega) (by omega) rfl (by decide) (by decide)) ?_
          refine wd_yg 10 rfl (by kernel_rfl) rfl rfl rfl (y_ldP1 Try.underlying3 rfl rfl (rdr 1 rfl) (by omega) (by omega)) ?_
          refine wd_yg 11 rfl (by kernel_rfl) rfl rfl rfl (y_index1 Try.underlying30 sz22 rfl rfl (h_ws.c _) (by first | exact (hmem (j - 1) (by omega) (by omega)).1.1 | exact (hmem (j - 1) (by omega) (by omega)).1.2.1) (by first | exact (hmem (j - 1) (by omega) (by omega)).1.1 | exact (hmem (j - 1) (by omega) (by omega)).1.2.1)) ?_
          refine s_ws.elim (i := (rdp U (j - 1)).1) (by first | exact (hmem (j - 1) (by omega) (by omega)).1.1 | exact (hmem (j - 1) (by omega) (by omega)).1.2.1) (by first | exact (hmem (j - 1) (by omega) (by omega)).1.1 | exact (hmem (j - 1) (by omega) (by omega)).1.2.1) (fun A_14 c_15 hv_16 hr_17 hb_18 mhr_17 => ?_)
          refine wd_yg 12 rfl (by kernel_rfl) rfl rfl rfl (y_ld Try.underlying22 rfl rfl rfl (h_ws.c _) hv_16) ?_
          refine wd_yg 13 rfl (by kernel_rfl) rfl rfl rfl (y_move rfl) ?_
          refine wd_yg 14 rfl (by kernel_rfl) rfl rfl rfl (y_move rfl) ?_
          refine wd_yg 15 rfl (by kernel_rfl) rfl rfl rfl (y_subI rfl rfl (by omega)) ?_
          refine wd_yg 16 rfl (by kernel_rfl) rfl rfl rfl (y_index Try.underlying49 sz51 rfl rfl (rdr 1 rfl) rfl (by omega) (by omega)) ?_
          refine wd_yg 17 rfl (by kernel_rfl) rfl rfl rfl (y_pairAt (q := 1) Try.underlying51 sz3 rfl rfl (rdr 1 rfl) (by omega) (by omega) rfl (by decide) (by decide)) ?_
          refine wd_yg 18 rfl (by kernel_rfl) rfl rfl rfl (y_ldP2 Try.underlying3 rfl rfl (rdr 1 rfl) (by omega) (by omega)) ?_
          refine wd_ag 19 rfl (by kernel_rfl) rfl rfl rfl (a_callF en28 rfl (Ct.fresh (fun w hw => turn4_ct ((hr_17.c _) w hw) ⟨(hmem (j - 1) (by omega) (by omega)).1.2.2.1, Int.le_of_lt (hmem (j - 1) (by omega) (by omega)).1.2.2.2⟩ (hmx (j - 1) (by omega) (by omega))))) ?_
          rintro _ _ ⟨_, rfl, A_19, c_20, rfl, rfl⟩
          refine ⟨.inr fun _ h => h.right (R' := [_]), ?_⟩
          refine wd_ag 20 rfl (by kernel_rfl) rfl rfl rfl (a_callF en84 rfl (Ct.quiet (fun w hw => compareR8_ct ((rdr 1 rfl) w hw) ((rdr 0 rfl) w hw) (Nat.le_trans (turn_le _ _) (Nat.le_trans (flat_ge (ws := ws) (k := q) hw0 (by omega)) (by omega))) (Nat.le_trans (turn_le _ _) (hmx (j - 1) (by omega) (by omega)))))) ?_
          rintro _ _ ⟨rfl, rfl⟩
          refine ⟨.inr fun _ h => h, ?_⟩
          refine wd_yg 21 rfl (by kernel_rfl) rfl rfl rfl (y_lt rfl rfl) ?_
          refine wd_y 22 rfl (by kernel_rfl) rfl (y_pickT rfl rfl) ?_
          refine wd_nil (by kernel_rfl) ?_
          exact ⟨(Sub.cons rfl (Sub.cons rfl (Sub.cons rfl (Sub.cons rfl (Sub.cons rfl (Sub.cons rfl (Sub.to rfl (mb (by first | omega | exact ⟨fun h => ⟨(by assumption), h⟩, fun h => h.2⟩ | simp [*])) Sub.nil))))))), fun _ h => h.sel [1, 2] (by decide) rfl⟩
        ·
          refine wd_no 3 rfl (by kernel_rfl) rfl rfl rfl rfl ?_
          refine wd_no 4 rfl (by kernel_rfl) rfl rfl rfl rfl ?_
          refine wd_no 5 rfl (by kernel_rfl) rfl rfl rfl rfl ?_
          refine wd_no 6 rfl (by kernel_rfl) rfl rfl rfl rfl ?_
          refine wd_no 7 rfl (by kernel_rfl) rfl rfl rfl rfl ?_
          refine wd_no 8 rfl (by kernel_rfl) rfl rfl rfl rfl ?_
          refine wd_no 9 rfl (by kernel_rfl) rfl rfl rfl rfl ?_
          refine wd_no 10 rfl (by kernel_rfl) rfl rfl rfl rfl ?_
          refine wd_no 11 rfl (by kernel_rfl) rfl rfl rfl rfl ?_
          refine wd_no 12 rfl (by kernel_rfl) rfl rfl rfl rfl ?_
          refine wd_no 13 rfl (by kernel_rfl) rfl rfl rfl rfl ?_
          refine wd_no 14 rfl (by kernel_rfl) rfl rfl rfl rfl ?_
          refine wd_no 15 rfl (by kernel_rfl) rfl rfl rfl rfl ?_
          refine wd_no 16 rfl (by kernel_rfl) rfl rfl rfl rfl ?_
          refine wd_no 17 rfl (by kernel_rfl) rfl rfl rfl rfl ?_
          refine wd_no 18 rfl (by kernel_rfl) rfl rfl rfl rfl ?_
          refine wd_no 19 rfl (by kernel_rfl) rfl rfl rfl rfl ?_
          refine wd_no 20 rfl (by kernel_rfl) rfl rfl rfl rfl ?_
          refine wd_no 21 rfl (by kernel_rfl) rfl rfl rfl rfl ?_
          refine wd_y 22 rfl (by kernel_rfl) rfl (y_pickF rfl rfl) ?_
          refine wd_nil (by kernel_rfl) ?_
          exact ⟨(Sub.cons rfl (Sub.cons rfl (Sub.cons rfl (Sub.cons rfl (Sub.cons rfl (Sub.cons rfl (Sub.to rfl (mb_f (by first | omega | exact ⟨fun h => ⟨(by assumption), h⟩, fun h => h.2⟩ | simp [*])) Sub.nil))))))), fun _ h => h⟩
      refine w_if rfl (fun hc4 => ?_) (fun hc4 => ?_)
      ·
        have hdn := ins_down (ws := ws) hw0 (by omega) hk0 (by omega) hp1 hj0 hj1 hgt hc4
        refine w_skip ?_
        refine w_block ?_
        refine w_reg ?_
        refine wr_y rfl (y_move rfl) ?_
        refine wr_y rfl (y_subI rfl rfl (by omega)) ?_
        refine wr_y rfl (y_assign rfl) ?_
        refine wr_nil ?_
        exact ⟨j - 1, ⟨(by omega), (by omega), (hdn)⟩, (by omega), (Sub.cons rfl (Sub.cons rfl (Sub.cons rfl (Sub.cons rfl (Sub.cons rfl (Sub.cons rfl Sub.nil)))))), fun _ h => h⟩
      ·
        have hins := ins_all (ws := ws) hw0 (by omega) hk0 (by omega) hp1 hs1 hj0 hj1 hgt hc4
        refine w_exit ?_
        refine w_regd mixed ?_
        refine wd_y 1 rfl (by kernel_rfl) rfl (y_move rfl) ?_
        refine wd_y 2 rfl (by kernel_rfl) rfl (y_move rfl) ?_
        refine wd_y 3 rfl (by kernel_rfl) rfl (y_sliceTo Try.underlying49 sz51 rfl rfl (rdr 1 rfl) (by omega) (by omega)) ?_
        refine wd_y 5 rfl (by kernel_rfl) rfl (y_move rfl) ?_
        refine wd_y 6 rfl (by kernel_rfl) rfl (y_move rfl) ?_
        refine wd_y 7 rfl (by kernel_rfl) rfl (y_build (v := .agg #[.int .i64 q, .int .i64 k]) rfl (fun w => by kernel_rfl)) ?_
        refine wd_y 10 rfl (by kernel_rfl) rfl (y_move rfl) ?_
        refine wd_y 11 rfl (by kernel_rfl) rfl (y_move rfl) ?_
        refine wd_y 12 rfl (by kernel_rfl) rfl (y_sliceFrom Try.underlying49 sz51 rfl rfl (by omega) (by omega)) ?_
        refine wd_two 0 8 (by kernel_rfl) ?_ ?_
        ·
          refine t1_a 0 rfl rfl (a_litP0 Try.underlying49 zs51) ?_
          rintro _ _ ⟨g_23, rfl, rfl⟩
          refine ⟨.inr fun _ h => h.right (R' := [_]), ?_⟩
          refine wd_two 4 8 (by kernel_rfl) ?_ ?_
          ·
            refine t1_a 4 rfl rfl (a_appendP 0 rfl Try.underlying49 zb51 rfl rfl rfl rfl (RdC.toP (rdr 2 rfl) (by omega)) (by omega)) ?_
            rintro _ _ ⟨A_24, c_25, rfl, rfl⟩
            refine ⟨.inl (by kernel_rfl), ?_⟩
            refine wd_rows (R1 := [⟨51, 2, A_24, (0 + ((j).toNat)), c_25, prs (([]) ++ ((U).take (j).toNat)), false⟩, ⟨5, 1, A_11, ((rdl ws q).drop (k).toNat ++ (rdl ws q).take (k).toNat).length, c_12, ints .u8 ((rdl ws q).drop (k).toNat ++ (rdl ws q).take (k).toNat), false⟩, ⟨51, 2, B1, m1, d1, prs U, false⟩]) rfl ?_
            refine wd_as (v := .slice A_24 (0 + ((j).toNat)) c_25) rfl ?_
            refine wd_a 8 rfl (by kernel_rfl) rfl (a_litP Try.underlying49 zs51 rfl) ?_
            rintro _ _ ⟨g_27, rfl, rfl⟩
            refine ⟨.inr fun _ h => h.right (R' := [_]), ?_⟩
            refine wd_a 9 rfl (by kernel_rfl) rfl (a_appendP 1 rfl Try.underlying49 zb51 rfl rfl rfl rfl (rdr 0 rfl) (by omega)) ?_
            rintro _ _ ⟨A_28, c_29, rfl, rfl⟩
            refine ⟨.inl (by kernel_rfl), ?_⟩
            refine wd_rows (R1 := [⟨51, 2, (some ⟨g_27, 0, none⟩), 1, 1, prs ([(q, k)]), false⟩, ⟨51, 2, A_28, ((0 + ((j).toNat)) + 1), c_29, prs ((([]) ++ ((U).take (j).toNat)) ++ ([(q, k)])), false⟩, ⟨5, 1, A_11, ((rdl ws q).drop (k).toNat ++ (rdl ws q).take (k).toNat).length, c_12, ints .u8 ((rdl ws q).drop (k).toNat ++ (rdl ws q).take (k).toNat), false⟩, ⟨51, 2, B1, m1, d1, prs U, false⟩]) rfl ?_
            refine wd_as (v := .slice A_28 ((0 + ((j).toNat)) + 1) c_29) rfl ?_
            refine wd_a 13 rfl (by kernel_rfl) rfl (a_appendP 1 rfl Try.underlying49 zb51 rfl rfl rfl rfl (RdC.fromP (rdr 3 rfl) (by omega)) (by omega)) ?_
            rintro _ _ ⟨A_30, c_31, rfl, rfl⟩
            refine ⟨.inl (by kernel_rfl), ?_⟩
            refine wd_rows (R1 := [⟨51, 2, (some ⟨g_27, 0, none⟩), 1, 1, prs ([(q, k)]), false⟩, ⟨51, 2, A_30, (((0 + ((j).toNat)) + 1) + (m1 - (j).toNat)), c_31, prs (((([]) ++ ((U).take (j).toNat)) ++ ([(q, k)])) ++ ((U).drop (j).toNat)), false⟩, ⟨5, 1, A_11, ((rdl ws q).drop (k).toNat ++ (rdl ws q).take (k).toNat).length, c_12, ints .u8 ((rdl ws q).drop (k).toNat ++ (rdl ws q).take (k).toNat), false⟩, ⟨51, 2, B1, m1, d1, prs U, false⟩]) rfl ?_
            refine wd_as (v := .slice A_30 (((0 + ((j).toNat)) + 1) + (m1 - (j).toNat)) c_31) rfl ?_
            refine wd_y 14 rfl (by kernel_rfl) rfl (y_assign rfl) ?_
            refine wd_nil (by kernel_rfl) ?_
            refine w_reg ?_
            refine wr_y rfl (y_move rfl) ?_
            refine wr_y rfl (y_addI rfl rfl (by omega)) ?_
            refine wr_y rfl (y_assign rfl) ?_
            refine wr_nil ?_
            exact ⟨k + 1, A_30, ((0 + ((j).toNat)) + 1) + (m1 - (j).toNat), c_31, ((([]) ++ ((U).take (j).toNat)) ++ ([(q, k)])) ++ ((U).drop (j).toNat), ⟨(by omega), (by omega), (by simp only [List.length_append, List.length_take, List.length_drop, List.length_cons, List.length_nil]; omega), (hins.1), (hins.2)⟩, (by omega), (Sub.cons rfl (Sub.cons rfl (Sub.cons rfl (Sub.cons rfl Sub.nil)))), fun _ h => h.sel [1] (by decide) rfl⟩
          ·
            refine t1_a 8 rfl rfl (a_litP Try.underlying49 zs51 rfl) ?_
            rintro _ _ ⟨g_34, rfl, rfl⟩
            refine ⟨.inr fun _ h => h.right (R' := [_]), ?_⟩
            refine wd_a 4 rfl (by kernel_rfl) rfl (a_appendP 1 rfl Try.underlying49 zb51 rfl rfl rfl rfl (RdC.toP (rdr 3 rfl) (by omega)) (by omega)) ?_
            rintro _ _ ⟨A_35, c_36, rfl, rfl⟩
            refine ⟨.inl (by kernel_rfl), ?_⟩
            refine wd_rows (R1 := [⟨51, 2, (some ⟨g_34, 0, none⟩), 1, 1, prs ([(q, k)]), false⟩, ⟨51, 2, A_35, (0 + ((j).toNat)), c_36, prs (([]) ++ ((U).take (j).toNat)), false⟩, ⟨5, 1, A_11, ((rdl ws q).drop (k).toNat ++ (rdl ws q).take (k).toNat).length, c_12, ints .u8 ((rdl ws q).drop (k).toNat ++ (rdl ws q).take (k).toNat), false⟩, ⟨51, 2, B1, m1, d1, prs U, false⟩]) rfl ?_
            refine wd_as (v := .slice A_35 (0 + ((j).toNat)) c_36) rfl ?_
            refine wd_a 9 rfl (by kernel_rfl) rfl (a_appendP 1 rfl Try.underlying49 zb51 rfl rfl rfl rfl (rdr 0 rfl) (by omega)) ?_
            rintro _ _ ⟨A_37, c_38, rfl, rfl⟩
            refine ⟨.inl (by kernel_rfl), ?_⟩
            refine wd_rows (R1 := [⟨51, 2, (some ⟨g_34, 0, none⟩), 1, 1, prs ([(q, k)]), false⟩, ⟨51, 2, A_37, ((0 + ((j).toNat)) + 1), c_38, prs ((([]) ++ ((U).take (j).toNat)) ++ ([(q, k)])), false⟩, ⟨5, 1, A_11, ((rdl ws q).drop (k).toNat ++ (rdl ws q).take (k).toNat).length, c_12, ints .u8 ((rdl ws q).drop (k).toNat ++ (rdl ws q).take (k).toNat), false⟩, ⟨51, 2, B1, m1, d1, prs U, false⟩]) rfl ?_
            refine wd_as (v := .slice A_37 ((0 + ((j).toNat)) + 1) c_38) rfl ?_
            refine wd_a 13 rfl (by kernel_rfl) rfl (a_appendP 1 rfl Try.underlying49 zb51 rfl rfl rfl rfl (RdC.fromP (rdr 3 rfl) (by omega)) (by omega)) ?_
            rintro _ _ ⟨A_39, c_40, rfl, rfl⟩
            refine ⟨.inl (by kernel_rfl), ?_⟩
            refine wd_rows (R1 := [⟨51, 2, (some ⟨g_34, 0, none⟩), 1, 1, prs ([(q, k)]), false⟩, ⟨51, 2, A_39, (((0 + ((j).toNat)) + 1) + (m1 - (j).toNat)), c_40, prs (((([]) ++ ((U).take (j).toNat)) ++ ([(q, k)])) ++ ((U).drop (j).toNat)), false⟩, ⟨5, 1, A_11, ((rdl ws q).drop (k).toNat ++ (rdl ws q).take (k).toNat).length, c_12, ints .u8 ((rdl ws q).drop (k).toNat ++ (rdl ws q).take (k).toNat), false⟩, ⟨51, 2, B1, m1, d1, prs U, false⟩]) rfl ?_
            refine wd_as (v := .slice A_39 (((0 + ((j).toNat)) + 1) + (m1 - (j).toNat)) c_40) rfl ?_
            refine wd_y 14 rfl (by kernel_rfl) rfl (y_assign rfl) ?_
            refine wd_nil (by kernel_rfl) ?_
            refine w_reg ?_
            refine wr_y rfl (y_move rfl) ?_
            refine wr_y rfl (y_addI rfl rfl (by omega)) ?_
            refine wr_y rfl (y_assign rfl) ?_
            refine wr_nil ?_
            exact ⟨k + 1, A_39, ((0 + ((j).toNat)) + 1) + (m1 - (j).toNat), c_40, ((([]) ++ ((U).take (j).toNat)) ++ ([(q, k)])) ++ ((U).drop (j).toNat), ⟨(by omega), (by omega), (by simp only [List.length_append, List.length_take, List.length_drop, List.length_cons, List.length_nil]; omega), (hins.1), (hins.2)⟩, (by omega), (Sub.cons rfl (Sub.cons rfl (Sub.cons rfl (Sub.cons rfl Sub.nil)))), fun _ h => h.sel [1] (by decide) rfl⟩
        ·
          refine t1_a 8 rfl rfl (a_litP Try.underlying49 zs51 rfl) ?_
          rintro _ _ ⟨g_43, rfl, rfl⟩
          refine ⟨.inr fun _ h => h.right (R' := [_]), ?_⟩
          refine wd_a 0 rfl (by kernel_rfl) rfl (a_litP0 Try.underlying49 zs51) ?_
          rintro _ _ ⟨g_45, rfl, rfl⟩
          refine ⟨.inr fun _ h => h.right (R' := [_]), ?_⟩
          refine wd_a 4 rfl (by kernel_rfl) rfl (a_appendP 0 rfl Try.underlying49 zb51 rfl rfl rfl rfl (RdC.toP (rdr 3 rfl) (by omega)) (by omega)) ?_
          rintro _ _ ⟨A_46, c_47, rfl, rfl⟩
          refine ⟨.inl (by kernel_rfl), ?_⟩
          refine wd_rows (R1 := [⟨51, 2, A_46, (0 + ((j).toNat)), c_47, prs (([]) ++ ((U).take (j).toNat)), false⟩, ⟨51, 2, (some ⟨g_43, 0, none⟩), 1, 1, prs ([(q, k)]), false⟩, ⟨5, 1, A_11, ((rdl ws q).drop (k).toNat ++ (rdl ws q).take (k).toNat).length, c_12, ints .u8 ((rdl ws q).drop (k).toNat ++ (rdl ws q).take (k).toNat), false⟩, ⟨51, 2, B1, m1, d1, prs U, false⟩]) rfl ?_
          refine wd_as (v := .slice A_46 (0 + ((j).toNat)) c_47) rfl ?_
          refine wd_a 9 rfl (by kernel_rfl) rfl (a_appendP 0 rfl Try.underlying49 zb51 rfl rfl rfl rfl (rdr 1 rfl) (by omega)) ?_
          rintro _ _ ⟨A_48, c_49, rfl, rfl⟩
          refine ⟨.inl (by kernel_rfl), ?_⟩
          refine wd_rows (R1 := [⟨51, 2, A_48, ((0 + ((j).toNat)) + 1), c_49, prs ((([]) ++ ((U).take (j).toNat)) ++ ([(q, k)])), false⟩, ⟨51, 2, (some ⟨g_43, 0, none⟩), 1, 1, prs ([(q, k)]), false⟩, ⟨5, 1, A_11, ((rdl ws q).drop (k).toNat ++ (rdl ws q).take (k).toNat).length, c_12, ints .u8 ((rdl ws q).drop (k).toNat ++ (rdl ws q).take (k).toNat), false⟩, ⟨51, 2, B1, m1, d1, prs U, false⟩]) rfl ?_
          refine wd_as (v := .slice A_48 ((0 + ((j).toNat)) + 1) c_49) rfl ?_
          refine wd_a 13 rfl (by kernel_rfl) rfl (a_appendP 0 rfl Try.underlying49 zb51 rfl rfl rfl rfl (RdC.fromP (rdr 3 rfl) (by omega)) (by omega)) ?_
          rintro _ _ ⟨A_50, c_51, rfl, rfl⟩
          refine ⟨.inl (by kernel_rfl), ?_⟩
          refine wd_rows (R1 := [⟨51, 2, A_50, (((0 + ((j).toNat)) + 1) + (m1 - (j).toNat)), c_51, prs (((([]) ++ ((U).take (j).toNat)) ++ ([(q, k)])) ++ ((U).drop (j).toNat)), false⟩, ⟨51, 2, (some ⟨g_43, 0, none⟩), 1, 1, prs ([(q, k)]), false⟩, ⟨5, 1, A_11, ((rdl ws q).drop (k).toNat ++ (rdl ws q).take (k).toNat).length, c_12, ints .u8 ((rdl ws q).drop (k).toNat ++ (rdl ws q).take (k).toNat), false⟩, ⟨51, 2, B1, m1, d1, prs U, false⟩]) rfl ?_
          refine wd_as (v := .slice A_50 (((0 + ((j).toNat)) + 1) + (m1 - (j).toNat)) c_51) rfl ?_
          refine wd_y 14 rfl (by kernel_rfl) rfl (y_assign rfl) ?_
          refine wd_nil (by kernel_rfl) ?_
          refine w_reg ?_
          refine wr_y rfl (y_move rfl) ?_
          refine wr_y rfl (y_addI rfl rfl (by omega)) ?_
          refine wr_y rfl (y_assign rfl) ?_
          refine wr_nil ?_
          exact ⟨k + 1, A_50, ((0 + ((j).toNat)) + 1) + (m1 - (j).toNat), c_51, ((([]) ++ ((U).take (j).toNat)) ++ ([(q, k)])) ++ ((U).drop (j).toNat), ⟨(by omega), (by omega), (by simp only [List.length_append, List.length_take, List.length_drop, List.length_cons, List.length_nil]; omega), (hins.1), (hins.2)⟩, (by omega), (Sub.cons rfl (Sub.cons rfl (Sub.cons rfl (Sub.cons rfl Sub.nil)))), fun _ h => h.sel [0] (by decide) rfl⟩
    ·
      refine w_exit ?_
      refine w_reg ?_
      refine wr_y rfl (y_move rfl) ?_
      refine wr_y rfl (y_addI rfl rfl (by omega)) ?_
      refine wr_y rfl (y_assign rfl) ?_
      refine wr_nil ?_
      exact ⟨q + 1, B1, m1, d1, U, ⟨(by omega), (by omega), (hm1), (by have e : k.toNat = (rdl ws q).length := (by omega); rw [tlist_succ hw0, ← e]; exact hp1), (hs1)⟩, (by omega), (Sub.cons rfl (Sub.cons rfl (Sub.cons rfl Sub.nil))), fun _ h => h⟩
  ·
    refine w_exit ?_
    refine w_seq ?_
    refine w_reg ?_
    refine wr_y rfl (y_move rfl) ?_
    refine wr_y rfl (y_assign rfl) ?_
    refine wr_nil ?_
    refine w_retR (R1 := [⟨51, 2, A1, n1, c1, prs T, false⟩]) (fun _ h => h.sel [0] (by decide) rfl) ?_
    refine ⟨_, rfl, ?_⟩
    obtain rfl := hn1
    exact ⟨T, _, _, rfl, by have e : q.toNat = ws.length := (by omega); rw [← e]; exact hp, hs, rfl⟩

end Go.Proofs.Ytdfcnalkdlifiaa
