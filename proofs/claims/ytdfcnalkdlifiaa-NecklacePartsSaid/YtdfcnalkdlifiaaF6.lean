/- Walks of Go functions, printed by a program of our own. -/
import Derived.Test.YtdfcnalkdlifiaaF1
import Derived.Test.YtdfcnalkdlifiaaQ3
import Derived.Test.YtdfcnalkdlifiaaQ6
import Derived.Test.YtdfcnalkdlifiaaS1
import Derived.Test.YtdfcnalkdlifiaaE18
namespace Go.Proofs.Ytdfcnalkdlifiaa
open Go Go.Eng Go.Pure
set_option linter.unusedVariables false
/-! cmp.Or[int] -/
set_option maxRecDepth 100000 in
theorem orI_ct {w : World} {A_l : Option Addr} {n_l c_l : Nat} {l : List Int} (h_l : Rd w A_l n_l c_l 1 (ints .i64 l)) :
    Ct Try.prog 66 #[.slice A_l n_l c_l] w.heap.size w [] (fun v R' => v = .int .i64 (orL l)) := by
  obtain rfl := h_l.lenI
  refine fn1 Try.func66 rfl rfl rfl ?_
  have m_l := h_l.max
  refine w_seq ?_
  refine w_reg ?_
  refine wr_y rfl (y_assign rfl) ?_
  refine wr_nil ?_
  refine w_seq ?_
  refine w_reg ?_
  refine wr_y rfl (y_assign rfl) ?_
  refine wr_nil ?_
  refine w_seq ?_
  refine w_seq ?_
  refine w_reg ?_
  refine wr_y rfl (y_move rfl) ?_
  refine wr_y rfl (y_len Try.underlying35 rfl) ?_
  refine wr_y rfl (y_move rfl) ?_
  refine wr_nil ?_
  refine w_block ?_
  refine w_loop1 (fun (k : Int) => [(3, .int .i64 0), (6, .slice A_l l.length c_l), (7, .int .i64 ((l.length : Nat) : Int)), (8, .int .i64 k)]) (fun (k : Int) => []) (fun (k : Int) => (0 ≤ k) ∧ (k ≤ l.length) ∧ (orL l = orL (l.drop k.toNat))) (fun (k : Int) => (l.length - k).toNat) ?_ ?_
  ·
    exact ⟨0, ⟨(by omega), (by omega), (rfl)⟩, (Sub.cons rfl (Sub.cons rfl (Sub.cons rfl (Sub.cons rfl Sub.nil)))), fun _ h => h⟩
  intro k ⟨hk0, hk1, ho⟩
  refine w_seq ?_
  refine w_reg ?_
  refine wr_y rfl (y_lt rfl rfl) ?_
  refine wr_nil ?_
  refine w_seq ?_
  refine w_if rfl (fun hc1 => ?_) (fun hc1 => ?_)
  ·
    refine w_skip ?_
    refine w_seq ?_
    refine w_block ?_
    refine w_seq ?_
    refine w_reg ?_
    refine wr_y rfl (y_index1 Try.underlying35 sz3 rfl rfl (h_l.c _) (by omega) (by omega)) ?_
    refine wr_y rfl (y_ldI Try.underlying3 rfl rfl (h_l.c _) (by omega) (by omega)) ?_
    refine wr_y rfl (y_assign rfl) ?_
    refine wr_nil ?_
    refine w_seq ?_
    refine w_reg ?_
    refine wr_y rfl (y_move rfl) ?_
    refine wr_y rfl (y_move rfl) ?_
    refine wr_y rfl (y_ne rfl rfl) ?_
    refine wr_nil ?_
    refine w_if rfl (fun hc2 => ?_) (fun hc2 => ?_)
    ·
      refine w_seq ?_
      refine w_reg ?_
      refine wr_y rfl (y_move rfl) ?_
      refine wr_y rfl (y_assign rfl) ?_
      refine wr_nil ?_
      refine w_ret ?_
      refine ⟨_, rfl, ?_⟩
      exact congrArg (Value.int .i64) (by rw [ho, orL_hit hk0 (by omega) (by omega)])
    ·
      refine w_skip ?_
      refine w_reg ?_
      refine wr_y rfl (y_addI rfl rfl (by omega)) ?_
      refine wr_y rfl (y_move rfl) ?_
      refine wr_nil ?_
      exact ⟨k + 1, ⟨(by omega), (by omega), (by rw [ho, orL_go hk0 (by omega) (by omega)])⟩, (by omega), (Sub.cons rfl (Sub.cons rfl (Sub.cons rfl (Sub.cons rfl Sub.nil)))), fun _ h => h⟩
  ·
    refine w_exit ?_
    refine w_seq ?_
    refine w_reg ?_
    refine wr_y rfl (y_move rfl) ?_
    refine wr_y rfl (y_assign rfl) ?_
    refine wr_nil ?_
    refine w_ret ?_
    refine ⟨_, rfl, ?_⟩
    exact congrArg (Value.int .i64) (by rw [ho, List.drop_of_length_le (by omega)]; rfl)

/-! (*whorl/omega.sorter).ahead -/
set_option maxRecDepth 100000 in
theorem ahead_ct {w : World} {g_s : Nat} {A_w A_t A_b A_r : Option Addr} {n_t c_w c_t c_b c_r : Nat} {vals_w : List Value} {ws : List (List Int)} {bs rs : List Int} {t1 t2 : Int} {h : Int} (h_s : Rd w (some ⟨g_s, 0, none⟩) 1 1 4 [.slice A_w ws.length c_w, .slice A_t n_t c_t, .slice A_b bs.length c_b, .slice A_r rs.length c_r]) (h_w : Rd w A_w ws.length c_w 1 vals_w) (s_w : SlW .u8 w vals_w ws) (h_b : Rd w A_b bs.length c_b 1 (ints .i64 bs)) (h_r : Rd w A_r rs.length c_r 1 (ints .i64 rs)) (ha_t : 0 ≤ t1 ∧ t1 < ws.length ∧ t1 < bs.length) (hb_t : 0 ≤ t2 ∧ t2 ≤ 1000000) (hc_t : 0 < (rdl ws t1).length) (hd_t : 0 ≤ rd bs t1 ∧ rd bs t1 + (rdl ws t1).length ≤ rs.length) (hh : 0 ≤ h ∧ h ≤ 1000000) :
    Ct Try.prog 83 #[.pointer (some ⟨g_s, 0, none⟩), .agg #[.int .i64 t1, .int .i64 t2], .int .i64 h] w.heap.size w [] (fun v R' => v = .int .i64 (ahd ws bs rs (t1, t2) h)) := by
  refine fn1 Try.func83 rfl rfl rfl ?_
  have m_r := h_r.max
  have m_b := h_b.max
  have m_w := h_w.max
  have e1 := Int.emod_nonneg (t2 + h) (show ((rdl ws t1).length : Int) ≠ 0 by omega)
  have e2 := Int.emod_lt_of_pos (t2 + h) (show (0 : Int) < ((rdl ws t1).length : Int) by omega)
  refine w_seq ?_
  refine w_reg ?_
  refine wr_a rfl (a_box (sz := 2) rfl rfl) ?_
  rintro _ _ ⟨g_1, rfl, rfl⟩
  refine wr_rows (R1 := [⟨51, 2, (some ⟨g_1, 0, none⟩), 1, 1, [.int .i64 t1, .int .i64 t2], false⟩]) rfl ?_
  refine wr_y rfl (y_assign rfl) ?_
  refine wr_nil ?_
  refine w_seq ?_
  refine w_regd mixed ?_
  refine wd_y 0 rfl (by kernel_rfl) rfl (y_move rfl) ?_
  refine wd_y 1 rfl (by kernel_rfl) rfl (y_nilCheck rfl) ?_
  refine wd_y 2 rfl (by kernel_rfl) rfl (y_fieldAt (off := 3) (m := 3) Try.underlying76 rfl sz35 rfl rfl rfl) ?_
  refine wd_y 3 rfl (by kernel_rfl) rfl (y_ldIn (h_s.c _) Try.underlying35 rfl rfl rfl) ?_
  refine wd_y 4 rfl (by kernel_rfl) rfl (y_move rfl) ?_
  refine wd_y 5 rfl (by kernel_rfl) rfl (y_nilCheck rfl) ?_
  refine wd_y 6 rfl (by kernel_rfl) rfl (y_fieldAt (off := 2) (m := 2) Try.underlying76 rfl sz35 rfl rfl rfl) ?_
  refine wd_y 7 rfl (by kernel_rfl) rfl (y_ldIn (h_s.c _) Try.underlying35 rfl rfl rfl) ?_
  refine wd_y 8 rfl (by kernel_rfl) rfl (y_indexIn (q := 0) (rdR 0 (r := ⟨51, 2, (some ⟨g_1, 0, none⟩), 1, 1, [.int .i64 t1, .int .i64 t2], false⟩) rfl) Try.underlying51 sz3 rfl rfl (Nat.le_of_ble_eq_true rfl) (by decide) (by decide) rfl) ?_
  refine wd_y 9 rfl (by kernel_rfl) rfl (y_ldIn (rdR 0 (r := ⟨51, 2, (some ⟨g_1, 0, none⟩), 1, 1, [.int .i64 t1, .int .i64 t2], false⟩) rfl) Try.underlying3 rfl rfl rfl) ?_
  refine wd_y 10 rfl (by kernel_rfl) rfl (y_index1 Try.underlying35 sz3 rfl rfl (h_b.c _) (by omega) (by omega)) ?_
  refine wd_y 11 rfl (by kernel_rfl) rfl (y_ldI Try.underlying3 rfl rfl (h_b.c _) (by omega) (by omega)) ?_
  refine wd_y 12 rfl (by kernel_rfl) rfl (y_indexIn (q := 1) (rdR 0 (r := ⟨51, 2, (some ⟨g_1, 0, none⟩), 1, 1, [.int .i64 t1, .int .i64 t2], false⟩) rfl) Try.underlying51 sz3 rfl rfl (Nat.le_of_ble_eq_true rfl) (by decide) (by decide) rfl) ?_
  refine wd_y 13 rfl (by kernel_rfl) rfl (y_ldIn (rdR 0 (r := ⟨51, 2, (some ⟨g_1, 0, none⟩), 1, 1, [.int .i64 t1, .int .i64 t2], false⟩) rfl) Try.underlying3 rfl rfl rfl) ?_
  refine wd_y 14 rfl (by kernel_rfl) rfl (y_move rfl) ?_
  refine wd_y 15 rfl (by kernel_rfl) rfl (y_addI rfl rfl (by omega)) ?_
  refine wd_y 16 rfl (by kernel_rfl) rfl (y_move rfl) ?_
  refine wd_y 17 rfl (by kernel_rfl) rfl (y_nilCheck rfl) ?_
  refine wd_y 18 rfl (by kernel_rfl) rfl (y_fieldAt (off := 0) (m := 0) Try.underlying76 rfl sz30 rfl rfl rfl) ?_
  refine wd_y 19 rfl (by kernel_rfl) rfl (y_ldIn (h_s.c _) Try.underlying30 rfl rfl rfl) ?_
  refine wd_y 20 rfl (by kernel_rfl) rfl (y_indexIn (q := 0) (rdR 0 (r := ⟨51, 2, (some ⟨g_1, 0, none⟩), 1, 1, [.int .i64 t1, .int .i64 t2], false⟩) rfl) Try.underlying51 sz3 rfl rfl (Nat.le_of_ble_eq_true rfl) (by decide) (by decide) rfl) ?_
  refine wd_y 21 rfl (by kernel_rfl) rfl (y_ldIn (rdR 0 (r := ⟨51, 2, (some ⟨g_1, 0, none⟩), 1, 1, [.int .i64 t1, .int .i64 t2], false⟩) rfl) Try.underlying3 rfl rfl rfl) ?_
  refine wd_y 22 rfl (by kernel_rfl) rfl (y_index1 Try.underlying30 sz22 rfl rfl (h_w.c _) (by omega) (by omega)) ?_
  obtain ⟨A_3, c_4, hv_5, hr_6, hb_7, mhr_6⟩ := s_w.at (i := t1) (by omega) (by omega)
  refine wd_y 23 rfl (by kernel_rfl) rfl (y_ld Try.underlying22 rfl rfl rfl (h_w.c _) hv_5) ?_
  refine wd_y 24 rfl (by kernel_rfl) rfl (y_len Try.underlying22 rfl) ?_
  refine wd_y 25 rfl (by kernel_rfl) rfl (y_rem rfl rfl (by omega) (by omega)) ?_
  refine wd_y 26 rfl (by kernel_rfl) rfl (y_addI rfl rfl (by omega)) ?_
  refine wd_y 27 rfl (by kernel_rfl) rfl (y_index1 Try.underlying35 sz3 rfl rfl (h_r.c _) (by omega) (by omega)) ?_
  refine wd_y 28 rfl (by kernel_rfl) rfl (y_ldI Try.underlying3 rfl rfl (h_r.c _) (by omega) (by omega)) ?_
  refine wd_y 29 rfl (by kernel_rfl) rfl (y_assign rfl) ?_
  refine wd_nil (by kernel_rfl) ?_
  refine w_retR (R1 := []) (fun _ h => h.sel [] (by decide) rfl) ?_
  refine ⟨_, rfl, ?_⟩
  rfl

/-! (*whorl/omega.sorter).own -/
set_option maxRecDepth 100000 in
theorem own_ct {w : World} {g_s : Nat} {A_w A_t A_b A_r : Option Addr} {n_t c_w c_t c_b c_r : Nat} {vals_w : List Value} {ws : List (List Int)} {bs rs : List Int} {t1 t2 : Int} (h_s : Rd w (some ⟨g_s, 0, none⟩) 1 1 4 [.slice A_w ws.length c_w, .slice A_t n_t c_t, .slice A_b bs.length c_b, .slice A_r rs.length c_r]) (h_w : Rd w A_w ws.length c_w 1 vals_w) (s_w : SlW .u8 w vals_w ws) (h_b : Rd w A_b bs.length c_b 1 (ints .i64 bs)) (h_r : Rd w A_r rs.length c_r 1 (ints .i64 rs)) (ha_t : 0 ≤ t1 ∧ t1 < ws.length ∧ t1 < bs.length) (hb_t : 0 ≤ t2 ∧ t2 ≤ 1000000) (hc_t : 0 < (rdl ws t1).length) (hd_t : 0 ≤ rd bs t1 ∧ rd bs t1 + (rdl ws t1).length ≤ rs.length) :
    Ct Try.prog 82 #[.pointer (some ⟨g_s, 0, none⟩), .agg #[.int .i64 t1, .int .i64 t2]] w.heap.size w [] (fun v R' => v = .int .i64 (ahd ws bs rs (t1, t2) 0)) := by
  refine fn1 Try.func82 rfl rfl rfl ?_
  have m_r := h_r.max
  have m_b := h_b.max
  have m_w := h_w.max
  refine w_seq ?_
  refine w_reg ?_
  refine wr_a rfl (a_box (sz := 2) rfl rfl) ?_
  rintro _ _ ⟨g_1, rfl, rfl⟩
  refine wr_rows (R1 := [⟨51, 2, (some ⟨g_1, 0, none⟩), 1, 1, [.int .i64 t1, .int .i64 t2], false⟩]) rfl ?_
  refine wr_y rfl (y_assign rfl) ?_
  refine wr_nil ?_
  refine w_seq ?_
  refine w_reg ?_
  refine wr_y rfl (y_move rfl) ?_
  refine wr_y rfl (y_ldInA (vs := [.int .i64 t1, .int .i64 t2]) (rdR 0 (r := ⟨51, 2, (some ⟨g_1, 0, none⟩), 1, 1, [.int .i64 t1, .int .i64 t2], false⟩) rfl) Try.underlying51 rfl sz51 rfl rfl (Nat.le_of_ble_eq_true rfl) rfl) ?_
  refine wr_a rfl (a_callF en83 rfl (Ct.quiet (fun w hw => ahead_ct ((h_s.c _) w hw) ((h_w.c _) w hw) (s_w.c hw) ((h_b.c _) w hw) ((h_r.c _) w hw) (by first | assumption | omega | decide) (by first | assumption | omega | decide) (by first | assumption | omega | decide) (by first | assumption | omega | decide) (by first | assumption | omega | decide)))) ?_
  rintro _ _ ⟨rfl, rfl⟩
  refine wr_y rfl (y_assign rfl) ?_
  refine wr_nil ?_
  refine w_retR (R1 := []) (fun _ h => h.sel [] (by decide) rfl) ?_
  refine ⟨_, rfl, ?_⟩
  rfl

/-! (*whorl/omega.sorter).doubles$1 -/
set_option maxRecDepth 100000 in
theorem turnCmp_ct {w : World} {t1 t2 : Int} {u1 u2 : Int} {g_s : Nat} {A_w A_t A_b A_r : Option Addr} {n_t c_w c_t c_b c_r : Nat} {vals_w : List Value} {ws : List (List Int)} {bs rs : List Int} {g_p : Nat} {g_h : Nat} {h : Int} (h_s : Rd w (some ⟨g_s, 0, none⟩) 1 1 4 [.slice A_w ws.length c_w, .slice A_t n_t c_t, .slice A_b bs.length c_b, .slice A_r rs.length c_r]) (h_w : Rd w A_w ws.length c_w 1 vals_w) (s_w : SlW .u8 w vals_w ws) (h_b : Rd w A_b bs.length c_b 1 (ints .i64 bs)) (h_r : Rd w A_r rs.length c_r 1 (ints .i64 rs)) (h_p : Rd w (some ⟨g_p, 0, none⟩) 1 1 1 [.pointer (some ⟨g_s, 0, none⟩)]) (h_h : Rd w (some ⟨g_h, 0, none⟩) 1 1 1 [.int .i64 h]) (ha_t : 0 ≤ t1 ∧ t1 < ws.length ∧ t1 < bs.length) (hb_t : 0 ≤ t2 ∧ t2 ≤ 1000000) (hc_t : 0 < (rdl ws t1).length) (hd_t : 0 ≤ rd bs t1 ∧ rd bs t1 + (rdl ws t1).length ≤ rs.length) (ha_u : 0 ≤ u1 ∧ u1 < ws.length ∧ u1 < bs.length) (hb_u : 0 ≤ u2 ∧ u2 ≤ 1000000) (hc_u : 0 < (rdl ws u1).length) (hd_u : 0 ≤ rd bs u1 ∧ rd bs u1 + (rdl ws u1).length ≤ rs.length) (hh : 0 ≤ h ∧ h ≤ 1000000) :
    Ct Try.prog 81 #[.agg #[.int .i64 t1, .int .i64 t2], .agg #[.int .i64 u1, .int .i64 u2], .pointer (some ⟨g_p, 0, none⟩), .pointer (some ⟨g_h, 0, none⟩)] w.heap.size w [] (fun v R' => v = .int .i64 (tcmp ws bs rs h (t1, t2) (u1, u2))) := by
  refine fn1 Try.func81 rfl rfl rfl ?_
  have m_r := h_r.max
  have m_b := h_b.max
  have m_w := h_w.max
  refine w_seq ?_
  refine w_reg ?_
  refine wr_a rfl (a_box (sz := 2) rfl rfl) ?_
  rintro _ _ ⟨g_1, rfl, rfl⟩
  refine wr_rows (R1 := [⟨51, 2, (some ⟨g_1, 0, none⟩), 1, 1, [.int .i64 t1, .int .i64 t2], false⟩]) rfl ?_
  refine wr_a rfl (a_box (sz := 2) rfl rfl) ?_
  rintro _ _ ⟨g_3, rfl, rfl⟩
  refine wr_rows (R1 := [⟨51, 2, (some ⟨g_3, 0, none⟩), 1, 1, [.int .i64 u1, .int .i64 u2], false⟩, ⟨51, 2, (some ⟨g_1, 0, none⟩), 1, 1, [.int .i64 t1, .int .i64 t2], false⟩]) rfl ?_
  refine wr_y rfl (y_assign rfl) ?_
  refine wr_nil ?_
  refine w_seq ?_
  refine w_regd mixed ?_
  refine wd_y 0 rfl (by kernel_rfl) rfl (y_ldIn (h_p.c _) Try.underlying74 rfl rfl rfl) ?_
  refine wd_y 1 rfl (by kernel_rfl) rfl (y_ldInA (vs := [.int .i64 t1, .int .i64 t2]) (rdR 1 (r := ⟨51, 2, (some ⟨g_1, 0, none⟩), 1, 1, [.int .i64 t1, .int .i64 t2], false⟩) rfl) Try.underlying51 rfl sz51 rfl rfl (Nat.le_of_ble_eq_true rfl) rfl) ?_
  refine wd_y 3 rfl (by kernel_rfl) rfl (y_ldIn (h_p.c _) Try.underlying74 rfl rfl rfl) ?_
  refine wd_y 4 rfl (by kernel_rfl) rfl (y_ldInA (vs := [.int .i64 u1, .int .i64 u2]) (rdR 0 (r := ⟨51, 2, (some ⟨g_3, 0, none⟩), 1, 1, [.int .i64 u1, .int .i64 u2], false⟩) rfl) Try.underlying51 rfl sz51 rfl rfl (Nat.le_of_ble_eq_true rfl) rfl) ?_
  refine wd_y 7 rfl (by kernel_rfl) rfl (y_ldIn (h_p.c _) Try.underlying74 rfl rfl rfl) ?_
  refine wd_y 8 rfl (by kernel_rfl) rfl (y_ldInA (vs := [.int .i64 t1, .int .i64 t2]) (rdR 1 (r := ⟨51, 2, (some ⟨g_1, 0, none⟩), 1, 1, [.int .i64 t1, .int .i64 t2], false⟩) rfl) Try.underlying51 rfl sz51 rfl rfl (Nat.le_of_ble_eq_true rfl) rfl) ?_
  refine wd_y 9 rfl (by kernel_rfl) rfl (y_ldIn (h_h.c _) Try.underlying3 rfl rfl rfl) ?_
  refine wd_y 11 rfl (by kernel_rfl) rfl (y_ldIn (h_p.c _) Try.underlying74 rfl rfl rfl) ?_
  refine wd_y 12 rfl (by kernel_rfl) rfl (y_ldInA (vs := [.int .i64 u1, .int .i64 u2]) (rdR 0 (r := ⟨51, 2, (some ⟨g_3, 0, none⟩), 1, 1, [.int .i64 u1, .int .i64 u2], false⟩) rfl) Try.underlying51 rfl sz51 rfl rfl (Nat.le_of_ble_eq_true rfl) rfl) ?_
  refine wd_y 13 rfl (by kernel_rfl) rfl (y_ldIn (h_h.c _) Try.underlying3 rfl rfl rfl) ?_
  refine wd_y 16 rfl (by kernel_rfl) rfl (y_indexIn (q := 0) (rdR 1 (r := ⟨51, 2, (some ⟨g_1, 0, none⟩), 1, 1, [.int .i64 t1, .int .i64 t2], false⟩) rfl) Try.underlying51 sz3 rfl rfl (Nat.le_of_ble_eq_true rfl) (by decide) (by decide) rfl) ?_
  refine wd_y 17 rfl (by kernel_rfl) rfl (y_ldIn (rdR 1 (r := ⟨51, 2, (some ⟨g_1, 0, none⟩), 1, 1, [.int .i64 t1, .int .i64 t2], false⟩) rfl) Try.underlying3 rfl rfl rfl) ?_
  refine wd_y 18 rfl (by kernel_rfl) rfl (y_indexIn (q := 0) (rdR 0 (r := ⟨51, 2, (some ⟨g_3, 0, none⟩), 1, 1, [.int .i64 u1, .int .i64 u2], false⟩) rfl) Try.underlying51 sz3 rfl rfl (Nat.le_of_ble_eq_true rfl) (by decide) (by decide) rfl) ?_
  refine wd_y 19 rfl (by kernel_rfl) rfl (y_ldIn (rdR 0 (r := ⟨51, 2, (some ⟨g_3, 0, none⟩), 1, 1, [.int .i64 u1, .int .i64 u2], false⟩) rfl) Try.underlying3 rfl rfl rfl) ?_
  refine wd_y 21 rfl (by kernel_rfl) rfl (y_indexIn (q := 1) (rdR 1 (r := ⟨51, 2, (some ⟨g_1, 0, none⟩), 1, 1, [.int .i64 t1, .int .i64 t2], false⟩) rfl) Try.underlying51 sz3 rfl rfl (Nat.le_of_ble_eq_true rfl) (by decide) (by decide) rfl) ?_
  refine wd_y 22 rfl (by kernel_rfl) rfl (y_ldIn (rdR 1 (r := ⟨51, 2, (some ⟨g_1, 0, none⟩), 1, 1, [.int .i64 t1, .int .i64 t2], false⟩) rfl) Try.underlying3 rfl rfl rfl) ?_
  refine wd_y 23 rfl (by kernel_rfl) rfl (y_indexIn (q := 1) (rdR 0 (r := ⟨51, 2, (some ⟨g_3, 0, none⟩), 1, 1, [.int .i64 u1, .int .i64 u2], false⟩) rfl) Try.underlying51 sz3 rfl rfl (Nat.le_of_ble_eq_true rfl) (by decide) (by decide) rfl) ?_
  refine wd_y 24 rfl (by kernel_rfl) rfl (y_ldIn (rdR 0 (r := ⟨51, 2, (some ⟨g_3, 0, none⟩), 1, 1, [.int .i64 u1, .int .i64 u2], false⟩) rfl) Try.underlying3 rfl rfl rfl) ?_
  refine wd_a 2 rfl (by kernel_rfl) rfl (a_callF en82 rfl (Ct.quiet (fun w hw => own_ct ((h_s.c _) w hw) ((h_w.c _) w hw) (s_w.c hw) ((h_b.c _) w hw) ((h_r.c _) w hw) (by first | assumption | omega | decide) (by first | assumption | omega | decide) (by first | assumption | omega | decide) (by first | assumption | omega | decide)))) ?_
  rintro _ _ ⟨rfl, rfl⟩
  refine ⟨.inr fun _ h => h, ?_⟩
  refine wd_a 5 rfl (by kernel_rfl) rfl (a_callF en82 rfl (Ct.quiet (fun w hw => own_ct ((h_s.c _) w hw) ((h_w.c _) w hw) (s_w.c hw) ((h_b.c _) w hw) ((h_r.c _) w hw) (by first | assumption | omega | decide) (by first | assumption | omega | decide) (by first | assumption | omega | decide) (by first | assumption | omega | decide)))) ?_
  rintro _ _ ⟨rfl, rfl⟩
  refine ⟨.inr fun _ h => h, ?_⟩
  refine wd_a 6 rfl (by kernel_rfl) rfl (a_callF en68 rfl (Ct.quiet (fun w hw => compareI_ct))) ?_
  rintro _ _ ⟨rfl, rfl⟩
  refine ⟨.inr fun _ h => h, ?_⟩
  refine wd_a 10 rfl (by kernel_rfl) rfl (a_callF en83 rfl (Ct.quiet (fun w hw => ahead_ct ((h_s.c _) w hw) ((h_w.c _) w hw) (s_w.c hw) ((h_b.c _) w hw) ((h_r.c _) w hw) (by first | assumption | omega | decide) (by first | assumption | omega | decide) (by first | assumption | omega | decide) (by first | assumption | omega | decide) (by first | assumption | omega | decide)))) ?_
  rintro _ _ ⟨rfl, rfl⟩
  refine ⟨.inr fun _ h => h, ?_⟩
  refine wd_a 14 rfl (by kernel_rfl) rfl (a_callF en83 rfl (Ct.quiet (fun w hw => ahead_ct ((h_s.c _) w hw) ((h_w.c _) w hw) (s_w.c hw) ((h_b.c _) w hw) ((h_r.c _) w hw) (by first | assumption | omega | decide) (by first | assumption | omega | decide) (by first | assumption | omega | decide) (by first | assumption | omega | decide) (by first | assumption | omega | decide)))) ?_
  rintro _ _ ⟨rfl, rfl⟩
  refine ⟨.inr fun _ h => h, ?_⟩
  refine wd_a 15 rfl (by kernel_rfl) rfl (a_callF en68 rfl (Ct.quiet (fun w hw => compareI_ct))) ?_
  rintro _ _ ⟨rfl, rfl⟩
  refine ⟨.inr fun _ h => h, ?_⟩
  refine wd_a 20 rfl (by kernel_rfl) rfl (a_callF en68 rfl (Ct.quiet (fun w hw => compareI_ct))) ?_
  rintro _ _ ⟨rfl, rfl⟩
  refine ⟨.inr fun _ h => h, ?_⟩
  refine wd_a 25 rfl (by kernel_rfl) rfl (a_callF en68 rfl (Ct.quiet (fun w hw => compareI_ct))) ?_
  rintro _ _ ⟨rfl, rfl⟩
  refine ⟨.inr fun _ h => h, ?_⟩
  refine wd_a 26 rfl (by kernel_rfl) rfl (a_litI .i64 [cmpI (ahd ws bs rs (t1, t2) 0) (ahd ws bs rs (u1, u2) 0), cmpI (ahd ws bs rs (t1, t2) h) (ahd ws bs rs (u1, u2) h), cmpI t1 u1, cmpI t2 u2] Try.underlying35 zs3 rfl rfl rfl) ?_
  rintro _ _ ⟨g_6, rfl, rfl⟩
  refine ⟨.inr fun _ h => h.right (R' := [_]), ?_⟩
  refine wd_a 27 rfl (by kernel_rfl) rfl (a_callF en66 rfl (Ct.quiet (fun w hw => orI_ct ((rdr 0 rfl) w hw)))) ?_
  rintro _ _ ⟨rfl, rfl⟩
  refine ⟨.inr fun _ h => h, ?_⟩
  refine wd_y 28 rfl (by kernel_rfl) rfl (y_assign rfl) ?_
  refine wd_nil (by kernel_rfl) ?_
  refine w_retR (R1 := []) (fun _ h => h.sel [] (by decide) rfl) ?_
  refine ⟨_, rfl, ?_⟩
  rfl

theorem sortsTurns (cb : Array Value) : SortsK2 Try.prog 80 81 cb := fun α _ enc hk h1 cf hO blk off cap d w hcmp hH hblk hsz =>
  Try.slices_SortFunc 2 (fun w => by kernel_rfl) (fun w => by kernel_rfl) enc hk h1 cf hO 81 cb blk off cap d w en81 hcmp hH hblk hsz
/-! (*whorl/omega.sorter).doubles -/
set_option maxRecDepth 100000 in
theorem doubles_ct {B : Nat} {w0 : World} {R : List Row} {g_s : Nat} {A_w A_t A_b A_r A_o : Option Addr} {n_t n_o n_b n_r c_w c_t c_b c_r c_o : Nat} {vals_w : List Value} {ws : List (List Int)} {bs rs : List Int} {ts : List (Int × Int)} {h : Int} (hno : n_o = ts.length) (hnb : n_b = bs.length) (hnr : n_r = rs.length) (hrw : RdC B w0 R A_w ws.length c_w 1 vals_w) (hsw : ∀ w, Hp B w0 w R → SlW .u8 w vals_w ws) (hv : ∀ t ∈ ts, TOk ws bs rs.length t) (hinj : ∀ t ∈ ts, ∀ u ∈ ts, posT bs t = posT bs u → t = u) (hnd : ts.Nodup) (hne : ts ≠ []) (hN : rs.length ≤ 1000000 ∧ ts.length ≤ 1000000) (hh : 0 ≤ h ∧ h ≤ 1000000) :
    Ct Try.prog 59 #[.pointer (some ⟨g_s, 0, none⟩), .slice A_o n_o c_o, .int .i64 h] B w0 (⟨76, 4, (some ⟨g_s, 0, none⟩), 1, 1, [.slice A_w ws.length c_w, .slice A_t n_t c_t, .slice A_b n_b c_b, .slice A_r n_r c_r], false⟩ :: ⟨51, 2, A_o, n_o, c_o, prs ts, false⟩ :: ⟨3, 1, A_b, n_b, c_b, ints .i64 bs, false⟩ :: ⟨3, 1, A_r, n_r, c_r, ints .i64 rs, false⟩ :: R) (fun v R' => ∃ (l1 : List (Int × Int)) (rk : List Int) (A' : Option Addr) (c' : Nat), v = .int .i64 (clsF ws bs rs h l1 (l1.length - 1)) ∧ l1.Perm ts ∧ l1.Pairwise (fun x y => ¬ tcmp ws bs rs h y x < 0) ∧ rk.length = rs.length ∧ (∀ j : Nat, j < l1.length → rd rk (posT bs (rdp l1 j)) = clsF ws bs rs h l1 j) ∧ R' = ⟨76, 4, (some ⟨g_s, 0, none⟩), 1, 1, [.slice A_w ws.length c_w, .slice A_t n_t c_t, .slice A_b n_b c_b, .slice A' n_r c'], false⟩ :: ⟨51, 2, A_o, n_o, c_o, prs l1, false⟩ :: ⟨3, 1, A_b, n_b, c_b, ints .i64 bs, false⟩ :: ⟨3, 1, A', n_r, c', ints .i64 rk, false⟩ :: R) := by
  subst hno; subst hnb; subst hnr
  refine fn1 Try.func59 rfl rfl rfl ?_
  have hinj1 : ∀ t ∈ ts, 0 ≤ posT bs t := fun t ht => by have := hv t ht; unfold TOk at this; unfold posT; omega
  refine w_seq ?_
  refine w_reg ?_
  refine wr_a rfl (a_box (sz := 1) rfl rfl) ?_
  rintro _ _ ⟨g_1, rfl, rfl⟩
  refine wr_rows (R1 := (⟨74, 1, (some ⟨g_1, 0, none⟩), 1, 1, [.pointer (some ⟨g_s, 0, none⟩)], false⟩ :: ⟨76, 4, (some ⟨g_s, 0, none⟩), 1, 1, [.slice A_w ws.length c_w, .slice A_t n_t c_t, .slice A_b bs.length c_b, .slice A_r rs.length c_r], false⟩ :: ⟨51, 2, A_o, ts.length, c_o, prs ts, false⟩ :: ⟨3, 1, A_b, bs.length, c_b, ints .i64 bs, false⟩ :: ⟨3, 1, A_r, rs.length, c_r, ints .i64 rs, false⟩ :: R)) rfl ?_
  refine wr_a rfl (a_box (sz := 1) rfl rfl) ?_
  rintro _ _ ⟨g_3, rfl, rfl⟩
  refine wr_rows (R1 := (⟨3, 1, (some ⟨g_3, 0, none⟩), 1, 1, [.int .i64 h], false⟩ :: ⟨74, 1, (some ⟨g_1, 0, none⟩), 1, 1, [.pointer (some ⟨g_s, 0, none⟩)], false⟩ :: ⟨76, 4, (some ⟨g_s, 0, none⟩), 1, 1, [.slice A_w ws.length c_w, .slice A_t n_t c_t, .slice A_b bs.length c_b, .slice A_r rs.length c_r], false⟩ :: ⟨51, 2, A_o, ts.length, c_o, prs ts, false⟩ :: ⟨3, 1, A_b, bs.length, c_b, ints .i64 bs, false⟩ :: ⟨3, 1, A_r, rs.length, c_r, ints .i64 rs, false⟩ :: R)) rfl ?_
  refine wr_y rfl (y_assign rfl) ?_
  refine wr_nil ?_
  refine w_seq ?_
  refine w_reg ?_
  refine wr_y rfl (y_move rfl) ?_
  refine wr_y rfl (y_makeFunc rfl rfl) ?_
  refine wr_a rfl (a_callF en80 rfl (sort_pairs (sortsTurns _) 3 rfl hne (by omega) (tcmp ws bs rs h) (tcmp_swo ws bs rs h) (fun W hW x hx y hy => turnCmp_ct ((rdR 2 (r := ⟨76, 4, (some ⟨g_s, 0, none⟩), 1, 1, [.slice A_w ws.length c_w, .slice A_t n_t c_t, .slice A_b bs.length c_b, .slice A_r rs.length c_r], false⟩) rfl) W hW) ((RdC.right hrw [_, _, _, _, _]) W hW) (hsw W (Hp.right (R' := [_, _, _, _, _]) hW)) ((rdR 3 (r := ⟨3, 1, A_b, bs.length, c_b, ints .i64 bs, false⟩) rfl) W hW) ((rdR 4 (r := ⟨3, 1, A_r, rs.length, c_r, ints .i64 rs, false⟩) rfl) W hW) ((rdR 1 (r := ⟨74, 1, (some ⟨g_1, 0, none⟩), 1, 1, [.pointer (some ⟨g_s, 0, none⟩)], false⟩) rfl) W hW) ((rdR 0 (r := ⟨3, 1, (some ⟨g_3, 0, none⟩), 1, 1, [.int .i64 h], false⟩) rfl) W hW) (hv x hx).1 (by have := (hv x hx).2.1; omega) (hv x hx).2.2.1 (hv x hx).2.2.2 (hv y hy).1 (by have := (hv y hy).2.1; omega) (hv y hy).2.2.1 (hv y hy).2.2.2 hh))) ?_
  rintro _ _ ⟨rfl, l1, hp1, hs1, rfl⟩
  have hl1 := hp1.length_eq
  have hv1 : ∀ t ∈ l1, TOk ws bs rs.length t := fun t ht => hv t (hp1.mem_iff.1 ht)
  have hnd1 := hp1.nodup_iff.2 hnd
  refine wr_rows (R1 := (⟨3, 1, (some ⟨g_3, 0, none⟩), 1, 1, [.int .i64 h], false⟩ :: ⟨74, 1, (some ⟨g_1, 0, none⟩), 1, 1, [.pointer (some ⟨g_s, 0, none⟩)], false⟩ :: ⟨76, 4, (some ⟨g_s, 0, none⟩), 1, 1, [.slice A_w ws.length c_w, .slice A_t n_t c_t, .slice A_b bs.length c_b, .slice A_r rs.length c_r], false⟩ :: ⟨51, 2, A_o, ts.length, c_o, prs l1, false⟩ :: ⟨3, 1, A_b, bs.length, c_b, ints .i64 bs, false⟩ :: ⟨3, 1, A_r, rs.length, c_r, ints .i64 rs, false⟩ :: R)) rfl ?_
  refine wr_nil ?_
  refine w_seq ?_
  refine w_reg ?_
  refine wr_y rfl (y_ldIn (rdR 1 (r := ⟨74, 1, (some ⟨g_1, 0, none⟩), 1, 1, [.pointer (some ⟨g_s, 0, none⟩)], false⟩) rfl) Try.underlying74 rfl rfl rfl) ?_
  refine wr_y rfl (y_nilCheck rfl) ?_
  refine wr_y rfl (y_fieldAt (off := 3) (m := 3) Try.underlying76 rfl sz35 rfl rfl rfl) ?_
  refine wr_y rfl (y_ldIn (rdR 2 (r := ⟨76, 4, (some ⟨g_s, 0, none⟩), 1, 1, [.slice A_w ws.length c_w, .slice A_t n_t c_t, .slice A_b bs.length c_b, .slice A_r rs.length c_r], false⟩) rfl) Try.underlying35 rfl rfl rfl) ?_
  refine wr_y rfl (y_len Try.underlying35 rfl) ?_
  refine wr_a rfl (a_makeN Try.underlying35 zb3 rfl rfl (by omega) (by omega) (by omega)) ?_
  rintro _ _ ⟨g_5, rfl, rfl⟩
  refine wr_rows (R1 := (⟨3, 1, (some ⟨g_5, 0, none⟩), rs.length, rs.length, ints .i64 (List.replicate rs.length (0 : Int)), false⟩ :: ⟨3, 1, (some ⟨g_3, 0, none⟩), 1, 1, [.int .i64 h], false⟩ :: ⟨74, 1, (some ⟨g_1, 0, none⟩), 1, 1, [.pointer (some ⟨g_s, 0, none⟩)], false⟩ :: ⟨76, 4, (some ⟨g_s, 0, none⟩), 1, 1, [.slice A_w ws.length c_w, .slice A_t n_t c_t, .slice A_b bs.length c_b, .slice A_r rs.length c_r], false⟩ :: ⟨51, 2, A_o, ts.length, c_o, prs l1, false⟩ :: ⟨3, 1, A_b, bs.length, c_b, ints .i64 bs, false⟩ :: ⟨3, 1, A_r, rs.length, c_r, ints .i64 rs, false⟩ :: R)) rfl ?_
  refine wr_as (v := .slice (some ⟨g_5, 0, none⟩) rs.length rs.length) rfl ?_
  refine wr_y rfl (y_assign rfl) ?_
  refine wr_nil ?_
  refine w_seq ?_
  refine w_reg ?_
  refine wr_y rfl (y_assign rfl) ?_
  refine wr_nil ?_
  refine w_seq ?_
  refine w_seq ?_
  refine w_reg ?_
  refine wr_y rfl (y_move rfl) ?_
  refine wr_y rfl (y_len Try.underlying49 rfl) ?_
  refine wr_y rfl (y_move rfl) ?_
  refine wr_nil ?_
  refine w_block ?_
  refine w_loop3 (fun (i : Int) (n : Int) (rk : List Int) => [(1, .slice A_o ts.length c_o), (3, .pointer (some ⟨g_1, 0, none⟩)), (5, .pointer (some ⟨g_3, 0, none⟩)), (7, .slice (some ⟨g_5, 0, none⟩) rs.length rs.length), (8, .int .i64 n), (21, .slice A_o ts.length c_o), (22, .int .i64 ((ts.length : Nat) : Int)), (23, .int .i64 i)]) (fun (i : Int) (n : Int) (rk : List Int) => (⟨3, 1, (some ⟨g_5, 0, none⟩), rs.length, rs.length, ints .i64 rk, false⟩ :: ⟨3, 1, (some ⟨g_3, 0, none⟩), 1, 1, [.int .i64 h], false⟩ :: ⟨74, 1, (some ⟨g_1, 0, none⟩), 1, 1, [.pointer (some ⟨g_s, 0, none⟩)], false⟩ :: ⟨76, 4, (some ⟨g_s, 0, none⟩), 1, 1, [.slice A_w ws.length c_w, .slice A_t n_t c_t, .slice A_b bs.length c_b, .slice A_r rs.length c_r], false⟩ :: ⟨51, 2, A_o, ts.length, c_o, prs l1, false⟩ :: ⟨3, 1, A_b, bs.length, c_b, ints .i64 bs, false⟩ :: ⟨3, 1, A_r, rs.length, c_r, ints .i64 rs, false⟩ :: R)) (fun (i : Int) (n : Int) (rk : List Int) => (0 ≤ i) ∧ (i ≤ l1.length) ∧ (0 ≤ n ∧ n ≤ i) ∧ (n = clsF ws bs rs h l1 (i - 1).toNat) ∧ (rk.length = rs.length) ∧ (∀ j : Nat, j < i → rd rk (posT bs (rdp l1 j)) = clsF ws bs rs h l1 j)) (fun (i : Int) (n : Int) (rk : List Int) => (l1.length - i).toNat) ?_ ?_
  ·
    exact ⟨0, 0, List.replicate rs.length (0 : Int), ⟨(by omega), (by omega), (by omega), (rfl), (by rw [List.length_replicate]), (fun j hj => by omega)⟩, (Sub.cons rfl (Sub.cons rfl (Sub.cons rfl (Sub.cons rfl (Sub.cons rfl (Sub.cons rfl (Sub.cons rfl (Sub.cons rfl Sub.nil)))))))), fun _ h => h⟩
  intro i n rk ⟨hi0, hi1, hn0, hn, hkl, hrk⟩
  refine w_seq ?_
  refine w_reg ?_
  refine wr_y rfl (y_lt rfl rfl) ?_
  refine wr_nil ?_
  refine w_seq ?_
  refine w_if rfl (fun hc1 => ?_) (fun hc1 => ?_)
  ·
    have hq := hv1 _ (rdp_mem hi0 (show i < l1.length by omega))
    obtain ⟨⟨q1, q2, q3⟩, ⟨q4, q5, q6⟩, q7, q8, q9⟩ := hq
    have hps : ∀ t ∈ l1, 0 ≤ posT bs t := fun t ht => hinj1 t (hp1.mem_iff.1 ht)
    have hij : ∀ t ∈ l1, ∀ u ∈ l1, posT bs t = posT bs u → t = u := fun t ht u hu => hinj t (hp1.mem_iff.1 ht) u (hp1.mem_iff.1 hu)
    refine w_skip ?_
    refine w_seq ?_
    refine w_block ?_
    refine w_seq ?_
    refine w_reg ?_
    refine wr_y rfl (y_move rfl) ?_
    refine wr_y rfl (y_index Try.underlying49 sz51 rfl rfl (rdr 4 rfl) rfl (by omega) (by omega)) ?_
    refine wr_y rfl (y_ldP Try.underlying51 rfl sz51 rfl (rdr 4 rfl) (by omega) (by omega)) ?_
    refine wr_a rfl (a_alloc (sz := 2) zz51 rfl) ?_
    rintro _ _ ⟨g_7, rfl, rfl⟩
    refine wr_rows (R1 := (⟨51, 2, (some ⟨g_7, 0, none⟩), 1, 1, [.int .i64 0, .int .i64 0], false⟩ :: ⟨3, 1, (some ⟨g_5, 0, none⟩), rs.length, rs.length, ints .i64 rk, false⟩ :: ⟨3, 1, (some ⟨g_3, 0, none⟩), 1, 1, [.int .i64 h], false⟩ :: ⟨74, 1, (some ⟨g_1, 0, none⟩), 1, 1, [.pointer (some ⟨g_s, 0, none⟩)], false⟩ :: ⟨76, 4, (some ⟨g_s, 0, none⟩), 1, 1, [.slice A_w ws.length c_w, .slice A_t n_t c_t, .slice A_b bs.length c_b, .slice A_r rs.length c_r], false⟩ :: ⟨51, 2, A_o, ts.length, c_o, prs l1, false⟩ :: ⟨3, 1, A_b, bs.length, c_b, ints .i64 bs, false⟩ :: ⟨3, 1, A_r, rs.length, c_r, ints .i64 rs, false⟩ :: R)) rfl ?_
    refine wr_y rfl (y_assign rfl) ?_
    refine wr_n (a_storeAll (vs := [.int .i64 ((rdp l1 i).1), .int .i64 ((rdp l1 i).2)]) 0 rfl sz51 rfl rfl rfl (by intro v hv; simp at hv; rcases hv with rfl | rfl <;> rfl) rfl) ?_
    rintro _ _ rfl
    refine wr_rows (R1 := (⟨51, 2, (some ⟨g_7, 0, none⟩), 1, 1, [.int .i64 ((rdp l1 i).1), .int .i64 ((rdp l1 i).2)], false⟩ :: ⟨3, 1, (some ⟨g_5, 0, none⟩), rs.length, rs.length, ints .i64 rk, false⟩ :: ⟨3, 1, (some ⟨g_3, 0, none⟩), 1, 1, [.int .i64 h], false⟩ :: ⟨74, 1, (some ⟨g_1, 0, none⟩), 1, 1, [.pointer (some ⟨g_s, 0, none⟩)], false⟩ :: ⟨76, 4, (some ⟨g_s, 0, none⟩), 1, 1, [.slice A_w ws.length c_w, .slice A_t n_t c_t, .slice A_b bs.length c_b, .slice A_r rs.length c_r], false⟩ :: ⟨51, 2, A_o, ts.length, c_o, prs l1, false⟩ :: ⟨3, 1, A_b, bs.length, c_b, ints .i64 bs, false⟩ :: ⟨3, 1, A_r, rs.length, c_r, ints .i64 rs, false⟩ :: R)) rfl ?_
    refine wr_nil ?_
    refine w_seq ?_
    refine w_seq ?_
    refine w_reg ?_
    refine wr_y rfl (y_move rfl) ?_
    refine wr_y rfl (y_gt rfl rfl) ?_
    refine wr_nil ?_
    refine w_if rfl (fun hc2 => ?_) (fun hc2 => ?_)
    ·
      have hq' := hv1 _ (rdp_mem (show 0 ≤ i - 1 by omega) (show i - 1 < l1.length by omega))
      obtain ⟨⟨p1, p2, p3⟩, ⟨p4, p5, p6⟩, p7, p8, p9⟩ := hq'
      refine w_seq ?_
      refine w_reg ?_
      refine wr_y rfl (y_move rfl) ?_
      refine wr_y rfl (y_move rfl) ?_
      refine wr_y rfl (y_subI rfl rfl (by omega)) ?_
      refine wr_y rfl (y_index Try.underlying49 sz51 rfl rfl (rdr 5 rfl) rfl (by omega) (by omega)) ?_
      refine wr_y rfl (y_ldP Try.underlying51 rfl sz51 rfl (rdr 5 rfl) (by omega) (by omega)) ?_
      refine wr_a rfl (a_alloc (sz := 2) zz51 rfl) ?_
      rintro _ _ ⟨g_9, rfl, rfl⟩
      refine wr_rows (R1 := (⟨51, 2, (some ⟨g_9, 0, none⟩), 1, 1, [.int .i64 0, .int .i64 0], false⟩ :: ⟨51, 2, (some ⟨g_7, 0, none⟩), 1, 1, [.int .i64 ((rdp l1 i).1), .int .i64 ((rdp l1 i).2)], false⟩ :: ⟨3, 1, (some ⟨g_5, 0, none⟩), rs.length, rs.length, ints .i64 rk, false⟩ :: ⟨3, 1, (some ⟨g_3, 0, none⟩), 1, 1, [.int .i64 h], false⟩ :: ⟨74, 1, (some ⟨g_1, 0, none⟩), 1, 1, [.pointer (some ⟨g_s, 0, none⟩)], false⟩ :: ⟨76, 4, (some ⟨g_s, 0, none⟩), 1, 1, [.slice A_w ws.length c_w, .slice A_t n_t c_t, .slice A_b bs.length c_b, .slice A_r rs.length c_r], false⟩ :: ⟨51, 2, A_o, ts.length, c_o, prs l1, false⟩ :: ⟨3, 1, A_b, bs.length, c_b, ints .i64 bs, false⟩ :: ⟨3, 1, A_r, rs.length, c_r, ints .i64 rs, false⟩ :: R)) rfl ?_
      refine wr_n (a_storeAll (vs := [.int .i64 ((rdp l1 (i - 1)).1), .int .i64 ((rdp l1 (i - 1)).2)]) 0 rfl sz51 rfl rfl rfl (by intro v hv; simp at hv; rcases hv with rfl | rfl <;> rfl) rfl) ?_
      rintro _ _ rfl
      refine wr_rows (R1 := (⟨51, 2, (some ⟨g_9, 0, none⟩), 1, 1, [.int .i64 ((rdp l1 (i - 1)).1), .int .i64 ((rdp l1 (i - 1)).2)], false⟩ :: ⟨51, 2, (some ⟨g_7, 0, none⟩), 1, 1, [.int .i64 ((rdp l1 i).1), .int .i64 ((rdp l1 i).2)], false⟩ :: ⟨3, 1, (some ⟨g_5, 0, none⟩), rs.length, rs.length, ints .i64 rk, false⟩ :: ⟨3, 1, (some ⟨g_3, 0, none⟩), 1, 1, [.int .i64 h], false⟩ :: ⟨74, 1, (some ⟨g_1, 0, none⟩), 1, 1, [.pointer (some ⟨g_s, 0, none⟩)], false⟩ :: ⟨76, 4, (some ⟨g_s, 0, none⟩), 1, 1, [.slice A_w ws.length c_w, .slice A_t n_t c_t, .slice A_b bs.length c_b, .slice A_r rs.length c_r], false⟩ :: ⟨51, 2, A_o, ts.length, c_o, prs l1, false⟩ :: ⟨3, 1, A_b, bs.length, c_b, ints .i64 bs, false⟩ :: ⟨3, 1, A_r, rs.length, c_r, ints .i64 rs, false⟩ :: R)) rfl ?_
      refine wr_nil ?_
      refine w_join0 [(1, .slice A_o ts.length c_o), (3, .pointer (some ⟨g_1, 0, none⟩)), (5, .pointer (some ⟨g_3, 0, none⟩)), (7, .slice (some ⟨g_5, 0, none⟩) rs.length rs.length), (8, .int .i64 n), (10, .pointer (some ⟨g_7, 0, none⟩)), (21, .slice A_o ts.length c_o), (22, .int .i64 ((ts.length : Nat) : Int)), (23, .int .i64 i), (52, .bool (decide (((ahd ws bs rs (((rdp l1 (i - 1)).1), ((rdp l1 (i - 1)).2)) 0) ≠ (ahd ws bs rs (((rdp l1 i).1), ((rdp l1 i).2)) 0)) ∨ ((ahd ws bs rs (((rdp l1 (i - 1)).1), ((rdp l1 (i - 1)).2)) h) ≠ (ahd ws bs rs (((rdp l1 i).1), ((rdp l1 i).2)) h)))))] (⟨51, 2, (some ⟨g_9, 0, none⟩), 1, 1, [.int .i64 ((rdp l1 (i - 1)).1), .int .i64 ((rdp l1 (i - 1)).2)], false⟩ :: ⟨51, 2, (some ⟨g_7, 0, none⟩), 1, 1, [.int .i64 ((rdp l1 i).1), .int .i64 ((rdp l1 i).2)], false⟩ :: ⟨3, 1, (some ⟨g_5, 0, none⟩), rs.length, rs.length, ints .i64 rk, false⟩ :: ⟨3, 1, (some ⟨g_3, 0, none⟩), 1, 1, [.int .i64 h], false⟩ :: ⟨74, 1, (some ⟨g_1, 0, none⟩), 1, 1, [.pointer (some ⟨g_s, 0, none⟩)], false⟩ :: ⟨76, 4, (some ⟨g_s, 0, none⟩), 1, 1, [.slice A_w ws.length c_w, .slice A_t n_t c_t, .slice A_b bs.length c_b, .slice A_r rs.length c_r], false⟩ :: ⟨51, 2, A_o, ts.length, c_o, prs l1, false⟩ :: ⟨3, 1, A_b, bs.length, c_b, ints .i64 bs, false⟩ :: ⟨3, 1, A_r, rs.length, c_r, ints .i64 rs, false⟩ :: R) ?_ ?_
      ·
        refine w_regd mixed ?_
        refine wd_y 0 rfl (by kernel_rfl) rfl (y_ldIn (rdR 4 (r := ⟨74, 1, (some ⟨g_1, 0, none⟩), 1, 1, [.pointer (some ⟨g_s, 0, none⟩)], false⟩) rfl) Try.underlying74 rfl rfl rfl) ?_
        refine wd_y 1 rfl (by kernel_rfl) rfl (y_ldInA (vs := [.int .i64 ((rdp l1 (i - 1)).1), .int .i64 ((rdp l1 (i - 1)).2)]) (rdR 0 (r := ⟨51, 2, (some ⟨g_9, 0, none⟩), 1, 1, [.int .i64 ((rdp l1 (i - 1)).1), .int .i64 ((rdp l1 (i - 1)).2)], false⟩) rfl) Try.underlying51 rfl sz51 rfl rfl (Nat.le_of_ble_eq_true rfl) rfl) ?_
        refine wd_y 3 rfl (by kernel_rfl) rfl (y_ldIn (rdR 4 (r := ⟨74, 1, (some ⟨g_1, 0, none⟩), 1, 1, [.pointer (some ⟨g_s, 0, none⟩)], false⟩) rfl) Try.underlying74 rfl rfl rfl) ?_
        refine wd_y 4 rfl (by kernel_rfl) rfl (y_ldInA (vs := [.int .i64 ((rdp l1 i).1), .int .i64 ((rdp l1 i).2)]) (rdR 1 (r := ⟨51, 2, (some ⟨g_7, 0, none⟩), 1, 1, [.int .i64 ((rdp l1 i).1), .int .i64 ((rdp l1 i).2)], false⟩) rfl) Try.underlying51 rfl sz51 rfl rfl (Nat.le_of_ble_eq_true rfl) rfl) ?_
        refine wd_a 2 rfl (by kernel_rfl) rfl (a_callF en82 rfl (Ct.quiet (fun w hw => own_ct ((rdR 5 (r := ⟨76, 4, (some ⟨g_s, 0, none⟩), 1, 1, [.slice A_w ws.length c_w, .slice A_t n_t c_t, .slice A_b bs.length c_b, .slice A_r rs.length c_r], false⟩) rfl) w hw) ((RdC.right hrw [_, _, _, _, _, _, _, _, _]) w hw) (hsw w (Hp.right (R' := [_, _, _, _, _, _, _, _, _]) hw)) ((rdr 7 rfl) w hw) ((rdr 8 rfl) w hw) (by first | assumption | omega | decide) (by first | assumption | omega | decide) (by first | assumption | omega | decide) (by first | assumption | omega | decide)))) ?_
        rintro _ _ ⟨rfl, rfl⟩
        refine ⟨.inr fun _ h => h, ?_⟩
        refine wd_a 5 rfl (by kernel_rfl) rfl (a_callF en82 rfl (Ct.quiet (fun w hw => own_ct ((rdR 5 (r := ⟨76, 4, (some ⟨g_s, 0, none⟩), 1, 1, [.slice A_w ws.length c_w, .slice A_t n_t c_t, .slice A_b bs.length c_b, .slice A_r rs.length c_r], false⟩) rfl) w hw) ((RdC.right hrw [_, _, _, _, _, _, _, _, _]) w hw) (hsw w (Hp.right (R' := [_, _, _, _, _, _, _, _, _]) hw)) ((rdr 7 rfl) w hw) ((rdr 8 rfl) w hw) (by first | assumption | omega | decide) (by first | assumption | omega | decide) (by first | assumption | omega | decide) (by first | assumption | omega | decide)))) ?_
        rintro _ _ ⟨rfl, rfl⟩
        refine ⟨.inr fun _ h => h, ?_⟩
        refine wd_y 6 rfl (by kernel_rfl) rfl (y_ne rfl rfl) ?_
        refine wd_y 7 rfl (by kernel_rfl) rfl (y_move rfl) ?_
        refine wd_case 42 rfl (fun hc3 => ?_) (fun hc3 => ?_)
        ·
          refine wd_no 8 rfl (by kernel_rfl) rfl rfl rfl rfl ?_
          refine wd_no 9 rfl (by kernel_rfl) rfl rfl rfl rfl ?_
          refine wd_no 10 rfl (by kernel_rfl) rfl rfl rfl rfl ?_
          refine wd_no 11 rfl (by kernel_rfl) rfl rfl rfl rfl ?_
          refine wd_no 12 rfl (by kernel_rfl) rfl rfl rfl rfl ?_
          refine wd_no 13 rfl (by kernel_rfl) rfl rfl rfl rfl ?_
          refine wd_no 14 rfl (by kernel_rfl) rfl rfl rfl rfl ?_
          refine wd_no 15 rfl (by kernel_rfl) rfl rfl rfl rfl ?_
          refine wd_no 16 rfl (by kernel_rfl) rfl rfl rfl rfl ?_
          refine wd_y 17 rfl (by kernel_rfl) rfl (y_pickT rfl rfl) ?_
          refine wd_nil (by kernel_rfl) ?_
          exact ⟨(Sub.cons rfl (Sub.cons rfl (Sub.cons rfl (Sub.cons rfl (Sub.cons rfl (Sub.cons rfl (Sub.cons rfl (Sub.cons rfl (Sub.cons rfl (Sub.to rfl (mb_t (by first | omega | exact ⟨fun h => ⟨(by assumption), h⟩, fun h => h.2⟩ | simp [*])) Sub.nil)))))))))), fun _ h => h⟩
        ·
          refine wd_yg 8 rfl (by kernel_rfl) rfl rfl rfl (y_ldIn (rdR 4 (r := ⟨74, 1, (some ⟨g_1, 0, none⟩), 1, 1, [.pointer (some ⟨g_s, 0, none⟩)], false⟩) rfl) Try.underlying74 rfl rfl rfl) ?_
          refine wd_yg 9 rfl (by kernel_rfl) rfl rfl rfl (y_ldInA (vs := [.int .i64 ((rdp l1 (i - 1)).1), .int .i64 ((rdp l1 (i - 1)).2)]) (rdR 0 (r := ⟨51, 2, (some ⟨g_9, 0, none⟩), 1, 1, [.int .i64 ((rdp l1 (i - 1)).1), .int .i64 ((rdp l1 (i - 1)).2)], false⟩) rfl) Try.underlying51 rfl sz51 rfl rfl (Nat.le_of_ble_eq_true rfl) rfl) ?_
          refine wd_yg 10 rfl (by kernel_rfl) rfl rfl rfl (y_ldIn (rdR 3 (r := ⟨3, 1, (some ⟨g_3, 0, none⟩), 1, 1, [.int .i64 h], false⟩) rfl) Try.underlying3 rfl rfl rfl) ?_
          refine wd_yg 12 rfl (by kernel_rfl) rfl rfl rfl (y_ldIn (rdR 4 (r := ⟨74, 1, (some ⟨g_1, 0, none⟩), 1, 1, [.pointer (some ⟨g_s, 0, none⟩)], false⟩) rfl) Try.underlying74 rfl rfl rfl) ?_
          refine wd_yg 13 rfl (by kernel_rfl) rfl rfl rfl (y_ldInA (vs := [.int .i64 ((rdp l1 i).1), .int .i64 ((rdp l1 i).2)]) (rdR 1 (r := ⟨51, 2, (some ⟨g_7, 0, none⟩), 1, 1, [.int .i64 ((rdp l1 i).1), .int .i64 ((rdp l1 i).2)], false⟩) rfl) Try.underlying51 rfl sz51 rfl rfl (Nat.le_of_ble_eq_true rfl) rfl) ?_
          refine wd_yg 14 rfl (by kernel_rfl) rfl rfl rfl (y_ldIn (rdR 3 (r := ⟨3, 1, (some ⟨g_3, 0, none⟩), 1, 1, [.int .i64 h], false⟩) rfl) Try.underlying3 rfl rfl rfl) ?_
          refine wd_ag 11 rfl (by kernel_rfl) rfl rfl rfl (a_callF en83 rfl (Ct.quiet (fun w hw => ahead_ct ((rdR 5 (r := ⟨76, 4, (some ⟨g_s, 0, none⟩), 1, 1, [.slice A_w ws.length c_w, .slice A_t n_t c_t, .slice A_b bs.length c_b, .slice A_r rs.length c_r], false⟩) rfl) w hw) ((RdC.right hrw [_, _, _, _, _, _, _, _, _]) w hw) (hsw w (Hp.right (R' := [_, _, _, _, _, _, _, _, _]) hw)) ((rdr 7 rfl) w hw) ((rdr 8 rfl) w hw) (by first | assumption | omega | decide) (by first | assumption | omega | decide) (by first | assumption | omega | decide) (by first | assumption | omega | decide) (by first | assumption | omega | decide)))) ?_
          rintro _ _ ⟨rfl, rfl⟩
          refine ⟨.inr fun _ h => h, ?_⟩
          refine wd_ag 15 rfl (by kernel_rfl) rfl rfl rfl (a_callF en83 rfl (Ct.quiet (fun w hw => ahead_ct ((rdR 5 (r := ⟨76, 4, (some ⟨g_s, 0, none⟩), 1, 1, [.slice A_w ws.length c_w, .slice A_t n_t c_t, .slice A_b bs.length c_b, .slice A_r rs.length c_r], false⟩) rfl) w hw) ((RdC.right hrw [_, _, _, _, _, _, _, _, _]) w hw) (hsw w (Hp.right (R' := [_, _, _, _, _, _, _, _, _]) hw)) ((rdr 7 rfl) w hw) ((rdr 8 rfl) w hw) (by first | assumption | omega | decide) (by first | assumption | omega | decide) (by first | assumption | omega | decide) (by first | assumption | omega | decide) (by first | assumption | omega | decide)))) ?_
          rintro _ _ ⟨rfl, rfl⟩
          refine ⟨.inr fun _ h => h, ?_⟩
          refine wd_yg 16 rfl (by kernel_rfl) rfl rfl rfl (y_ne rfl rfl) ?_
          refine wd_y 17 rfl (by kernel_rfl) rfl (y_pickF rfl rfl) ?_
          refine wd_nil (by kernel_rfl) ?_
          exact ⟨(Sub.cons rfl (Sub.cons rfl (Sub.cons rfl (Sub.cons rfl (Sub.cons rfl (Sub.cons rfl (Sub.cons rfl (Sub.cons rfl (Sub.cons rfl (Sub.to rfl (mb (by first | omega | exact ⟨fun h => ⟨(by assumption), h⟩, fun h => h.2⟩ | simp [*])) Sub.nil)))))))))), fun _ h => h⟩
      refine w_if rfl (fun hc4 => ?_) (fun hc4 => ?_)
      ·
        refine w_reg ?_
        refine wr_y rfl (y_move rfl) ?_
        refine wr_y rfl (y_addI rfl rfl (by omega)) ?_
        refine wr_y rfl (y_assign rfl) ?_
        refine wr_nil ?_
        refine w_regd mixed ?_
        refine wd_y 0 rfl (by kernel_rfl) rfl (y_move rfl) ?_
        refine wd_y 1 rfl (by kernel_rfl) rfl (y_ldIn (rdR 4 (r := ⟨74, 1, (some ⟨g_1, 0, none⟩), 1, 1, [.pointer (some ⟨g_s, 0, none⟩)], false⟩) rfl) Try.underlying74 rfl rfl rfl) ?_
        refine wd_y 2 rfl (by kernel_rfl) rfl (y_nilCheck rfl) ?_
        refine wd_y 3 rfl (by kernel_rfl) rfl (y_fieldAt (off := 2) (m := 2) Try.underlying76 rfl sz35 rfl rfl rfl) ?_
        refine wd_y 4 rfl (by kernel_rfl) rfl (y_ldIn (rdR 5 (r := ⟨76, 4, (some ⟨g_s, 0, none⟩), 1, 1, [.slice A_w ws.length c_w, .slice A_t n_t c_t, .slice A_b bs.length c_b, .slice A_r rs.length c_r], false⟩) rfl) Try.underlying35 rfl rfl rfl) ?_
        refine wd_y 5 rfl (by kernel_rfl) rfl (y_indexIn (q := 0) (rdR 1 (r := ⟨51, 2, (some ⟨g_7, 0, none⟩), 1, 1, [.int .i64 ((rdp l1 i).1), .int .i64 ((rdp l1 i).2)], false⟩) rfl) Try.underlying51 sz3 rfl rfl (Nat.le_of_ble_eq_true rfl) (by decide) (by decide) rfl) ?_
        refine wd_y 6 rfl (by kernel_rfl) rfl (y_ldIn (rdR 1 (r := ⟨51, 2, (some ⟨g_7, 0, none⟩), 1, 1, [.int .i64 ((rdp l1 i).1), .int .i64 ((rdp l1 i).2)], false⟩) rfl) Try.underlying3 rfl rfl rfl) ?_
        refine wd_y 7 rfl (by kernel_rfl) rfl (y_index1 Try.underlying35 sz3 rfl rfl (rdr 7 rfl) (by omega) (by omega)) ?_
        refine wd_y 8 rfl (by kernel_rfl) rfl (y_ldI Try.underlying3 rfl rfl (rdr 7 rfl) (by omega) (by omega)) ?_
        refine wd_y 9 rfl (by kernel_rfl) rfl (y_indexIn (q := 1) (rdR 1 (r := ⟨51, 2, (some ⟨g_7, 0, none⟩), 1, 1, [.int .i64 ((rdp l1 i).1), .int .i64 ((rdp l1 i).2)], false⟩) rfl) Try.underlying51 sz3 rfl rfl (Nat.le_of_ble_eq_true rfl) (by decide) (by decide) rfl) ?_
        refine wd_y 10 rfl (by kernel_rfl) rfl (y_ldIn (rdR 1 (r := ⟨51, 2, (some ⟨g_7, 0, none⟩), 1, 1, [.int .i64 ((rdp l1 i).1), .int .i64 ((rdp l1 i).2)], false⟩) rfl) Try.underlying3 rfl rfl rfl) ?_
        refine wd_y 11 rfl (by kernel_rfl) rfl (y_addI rfl rfl (by omega)) ?_
        refine wd_y 12 rfl (by kernel_rfl) rfl (y_move rfl) ?_
        refine wd_y 13 rfl (by kernel_rfl) rfl (y_index1 Try.underlying35 sz3 rfl rfl (rdr 2 rfl) (by omega) (by omega)) ?_
        refine wd_n 14 rfl (by kernel_rfl) (a_storeI 2 rfl sz3 rfl rfl (by omega) (by omega)) ?_
        rintro _ _ rfl
        refine ⟨.inl (by kernel_rfl), ?_⟩
        refine wd_rows (R1 := (⟨51, 2, (some ⟨g_9, 0, none⟩), 1, 1, [.int .i64 ((rdp l1 (i - 1)).1), .int .i64 ((rdp l1 (i - 1)).2)], false⟩ :: ⟨51, 2, (some ⟨g_7, 0, none⟩), 1, 1, [.int .i64 ((rdp l1 i).1), .int .i64 ((rdp l1 i).2)], false⟩ :: ⟨3, 1, (some ⟨g_5, 0, none⟩), rs.length, rs.length, ints .i64 (upd rk ((rd bs ((rdp l1 i).1)) + ((rdp l1 i).2)) (n + 1)), false⟩ :: ⟨3, 1, (some ⟨g_3, 0, none⟩), 1, 1, [.int .i64 h], false⟩ :: ⟨74, 1, (some ⟨g_1, 0, none⟩), 1, 1, [.pointer (some ⟨g_s, 0, none⟩)], false⟩ :: ⟨76, 4, (some ⟨g_s, 0, none⟩), 1, 1, [.slice A_w ws.length c_w, .slice A_t n_t c_t, .slice A_b bs.length c_b, .slice A_r rs.length c_r], false⟩ :: ⟨51, 2, A_o, ts.length, c_o, prs l1, false⟩ :: ⟨3, 1, A_b, bs.length, c_b, ints .i64 bs, false⟩ :: ⟨3, 1, A_r, rs.length, c_r, ints .i64 rs, false⟩ :: R)) rfl ?_
        refine wd_nil (by kernel_rfl) ?_
        refine w_reg ?_
        refine wr_y rfl (y_addI rfl rfl (by omega)) ?_
        refine wr_y rfl (y_move rfl) ?_
        refine wr_nil ?_
        exact ⟨i + 1, n + 1, upd rk ((rd bs ((rdp l1 i).1)) + ((rdp l1 i).2)) (n + 1), ⟨(by omega), (by omega), (by omega), (by rw [show i + 1 - 1 = i by omega, clsF_step (by omega), if_pos (by assumption), ← hn]), (by rw [upd, List.length_set]; exact hkl), (ranks_step hnd1 hij hi0 (by omega) hps (by unfold posT; omega) hrk (by have e : (i + 1 - 1) = i := (by omega); have hc := (by rw [show i + 1 - 1 = i by omega, clsF_step (by omega), if_pos (by assumption), ← hn] : _ = clsF ws bs rs h l1 (i + 1 - 1).toNat); rw [e] at hc; exact hc))⟩, (by omega), (Sub.cons rfl (Sub.cons rfl (Sub.cons rfl (Sub.cons rfl (Sub.cons rfl (Sub.cons rfl (Sub.cons rfl (Sub.cons rfl Sub.nil)))))))), fun _ h => h.selR (F := [_, _, _, _, _, _, _, _, _]) (F' := [_, _, _, _, _, _, _]) [2, 3, 4, 5, 6, 7, 8] (by decide) rfl⟩
      ·
        refine w_skip ?_
        refine w_regd mixed ?_
        refine wd_y 0 rfl (by kernel_rfl) rfl (y_move rfl) ?_
        refine wd_y 1 rfl (by kernel_rfl) rfl (y_ldIn (rdR 4 (r := ⟨74, 1, (some ⟨g_1, 0, none⟩), 1, 1, [.pointer (some ⟨g_s, 0, none⟩)], false⟩) rfl) Try.underlying74 rfl rfl rfl) ?_
        refine wd_y 2 rfl (by kernel_rfl) rfl (y_nilCheck rfl) ?_
        refine wd_y 3 rfl (by kernel_rfl) rfl (y_fieldAt (off := 2) (m := 2) Try.underlying76 rfl sz35 rfl rfl rfl) ?_
        refine wd_y 4 rfl (by kernel_rfl) rfl (y_ldIn (rdR 5 (r := ⟨76, 4, (some ⟨g_s, 0, none⟩), 1, 1, [.slice A_w ws.length c_w, .slice A_t n_t c_t, .slice A_b bs.length c_b, .slice A_r rs.length c_r], false⟩) rfl) Try.underlying35 rfl rfl rfl) ?_
        refine wd_y 5 rfl (by kernel_rfl) rfl (y_indexIn (q := 0) (rdR 1 (r := ⟨51, 2, (some ⟨g_7, 0, none⟩), 1, 1, [.int .i64 ((rdp l1 i).1), .int .i64 ((rdp l1 i).2)], false⟩) rfl) Try.underlying51 sz3 rfl rfl (Nat.le_of_ble_eq_true rfl) (by decide) (by decide) rfl) ?_
        refine wd_y 6 rfl (by kernel_rfl) rfl (y_ldIn (rdR 1 (r := ⟨51, 2, (some ⟨g_7, 0, none⟩), 1, 1, [.int .i64 ((rdp l1 i).1), .int .i64 ((rdp l1 i).2)], false⟩) rfl) Try.underlying3 rfl rfl rfl) ?_
        refine wd_y 7 rfl (by kernel_rfl) rfl (y_index1 Try.underlying35 sz3 rfl rfl (rdr 7 rfl) (by omega) (by omega)) ?_
        refine wd_y 8 rfl (by kernel_rfl) rfl (y_ldI Try.underlying3 rfl rfl (rdr 7 rfl) (by omega) (by omega)) ?_
        refine wd_y 9 rfl (by kernel_rfl) rfl (y_indexIn (q := 1) (rdR 1 (r := ⟨51, 2, (some ⟨g_7, 0, none⟩), 1, 1, [.int .i64 ((rdp l1 i).1), .int .i64 ((rdp l1 i).2)], false⟩) rfl) Try.underlying51 sz3 rfl rfl (Nat.le_of_ble_eq_true rfl) (by decide) (by decide) rfl) ?_
        refine wd_y 10 rfl (by kernel_rfl) rfl (y_ldIn (rdR 1 (r := ⟨51, 2, (some ⟨g_7, 0, none⟩), 1, 1, [.int .i64 ((rdp l1 i).1), .int .i64 ((rdp l1 i).2)], false⟩) rfl) Try.underlying3 rfl rfl rfl) ?_
        refine wd_y 11 rfl (by kernel_rfl) rfl (y_addI rfl rfl (by omega)) ?_
        refine wd_y 12 rfl (by kernel_rfl) rfl (y_move rfl) ?_
        refine wd_y 13 rfl (by kernel_rfl) rfl (y_index1 Try.underlying35 sz3 rfl rfl (rdr 2 rfl) (by omega) (by omega)) ?_
        refine wd_n 14 rfl (by kernel_rfl) (a_storeI 2 rfl sz3 rfl rfl (by omega) (by omega)) ?_
        rintro _ _ rfl
        refine ⟨.inl (by kernel_rfl), ?_⟩
        refine wd_rows (R1 := (⟨51, 2, (some ⟨g_9, 0, none⟩), 1, 1, [.int .i64 ((rdp l1 (i - 1)).1), .int .i64 ((rdp l1 (i - 1)).2)], false⟩ :: ⟨51, 2, (some ⟨g_7, 0, none⟩), 1, 1, [.int .i64 ((rdp l1 i).1), .int .i64 ((rdp l1 i).2)], false⟩ :: ⟨3, 1, (some ⟨g_5, 0, none⟩), rs.length, rs.length, ints .i64 (upd rk ((rd bs ((rdp l1 i).1)) + ((rdp l1 i).2)) n), false⟩ :: ⟨3, 1, (some ⟨g_3, 0, none⟩), 1, 1, [.int .i64 h], false⟩ :: ⟨74, 1, (some ⟨g_1, 0, none⟩), 1, 1, [.pointer (some ⟨g_s, 0, none⟩)], false⟩ :: ⟨76, 4, (some ⟨g_s, 0, none⟩), 1, 1, [.slice A_w ws.length c_w, .slice A_t n_t c_t, .slice A_b bs.length c_b, .slice A_r rs.length c_r], false⟩ :: ⟨51, 2, A_o, ts.length, c_o, prs l1, false⟩ :: ⟨3, 1, A_b, bs.length, c_b, ints .i64 bs, false⟩ :: ⟨3, 1, A_r, rs.length, c_r, ints .i64 rs, false⟩ :: R)) rfl ?_
        refine wd_nil (by kernel_rfl) ?_
        refine w_reg ?_
        refine wr_y rfl (y_addI rfl rfl (by omega)) ?_
        refine wr_y rfl (y_move rfl) ?_
        refine wr_nil ?_
        exact ⟨i + 1, n, upd rk ((rd bs ((rdp l1 i).1)) + ((rdp l1 i).2)) n, ⟨(by omega), (by omega), (by omega), (by rw [show i + 1 - 1 = i by omega, clsF_step (by omega), if_neg (by assumption), ← hn, Int.add_zero]), (by rw [upd, List.length_set]; exact hkl), (ranks_step hnd1 hij hi0 (by omega) hps (by unfold posT; omega) hrk (by have e : (i + 1 - 1) = i := (by omega); have hc := (by rw [show i + 1 - 1 = i by omega, clsF_step (by omega), if_neg (by assumption), ← hn, Int.add_zero] : _ = clsF ws bs rs h l1 (i + 1 - 1).toNat); rw [e] at hc; exact hc))⟩, (by omega), (Sub.cons rfl (Sub.cons rfl (Sub.cons rfl (Sub.cons rfl (Sub.cons rfl (Sub.cons rfl (Sub.cons rfl (Sub.cons rfl Sub.nil)))))))), fun _ h => h.selR (F := [_, _, _, _, _, _, _, _, _]) (F' := [_, _, _, _, _, _, _]) [2, 3, 4, 5, 6, 7, 8] (by decide) rfl⟩
    ·
      refine w_skip ?_
      refine w_regd mixed ?_
      refine wd_y 0 rfl (by kernel_rfl) rfl (y_move rfl) ?_
      refine wd_y 1 rfl (by kernel_rfl) rfl (y_ldIn (rdR 3 (r := ⟨74, 1, (some ⟨g_1, 0, none⟩), 1, 1, [.pointer (some ⟨g_s, 0, none⟩)], false⟩) rfl) Try.underlying74 rfl rfl rfl) ?_
      refine wd_y 2 rfl (by kernel_rfl) rfl (y_nilCheck rfl) ?_
      refine wd_y 3 rfl (by kernel_rfl) rfl (y_fieldAt (off := 2) (m := 2) Try.underlying76 rfl sz35 rfl rfl rfl) ?_
      refine wd_y 4 rfl (by kernel_rfl) rfl (y_ldIn (rdR 4 (r := ⟨76, 4, (some ⟨g_s, 0, none⟩), 1, 1, [.slice A_w ws.length c_w, .slice A_t n_t c_t, .slice A_b bs.length c_b, .slice A_r rs.length c_r], false⟩) rfl) Try.underlying35 rfl rfl rfl) ?_
      refine wd_y 5 rfl (by kernel_rfl) rfl (y_indexIn (q := 0) (rdR 0 (r := ⟨51, 2, (some ⟨g_7, 0, none⟩), 1, 1, [.int .i64 ((rdp l1 i).1), .int .i64 ((rdp l1 i).2)], false⟩) rfl) Try.underlying51 sz3 rfl rfl (Nat.le_of_ble_eq_true rfl) (by decide) (by decide) rfl) ?_
      refine wd_y 6 rfl (by kernel_rfl) rfl (y_ldIn (rdR 0 (r := ⟨51, 2, (some ⟨g_7, 0, none⟩), 1, 1, [.int .i64 ((rdp l1 i).1), .int .i64 ((rdp l1 i).2)], false⟩) rfl) Try.underlying3 rfl rfl rfl) ?_
      refine wd_y 7 rfl (by kernel_rfl) rfl (y_index1 Try.underlying35 sz3 rfl rfl (rdr 6 rfl) (by omega) (by omega)) ?_
      refine wd_y 8 rfl (by kernel_rfl) rfl (y_ldI Try.underlying3 rfl rfl (rdr 6 rfl) (by omega) (by omega)) ?_
      refine wd_y 9 rfl (by kernel_rfl) rfl (y_indexIn (q := 1) (rdR 0 (r := ⟨51, 2, (some ⟨g_7, 0, none⟩), 1, 1, [.int .i64 ((rdp l1 i).1), .int .i64 ((rdp l1 i).2)], false⟩) rfl) Try.underlying51 sz3 rfl rfl (Nat.le_of_ble_eq_true rfl) (by decide) (by decide) rfl) ?_
      refine wd_y 10 rfl (by kernel_rfl) rfl (y_ldIn (rdR 0 (r := ⟨51, 2, (some ⟨g_7, 0, none⟩), 1, 1, [.int .i64 ((rdp l1 i).1), .int .i64 ((rdp l1 i).2)], false⟩) rfl) Try.underlying3 rfl rfl rfl) ?_
      refine wd_y 11 rfl (by kernel_rfl) rfl (y_addI rfl rfl (by omega)) ?_
      refine wd_y 12 rfl (by kernel_rfl) rfl (y_move rfl) ?_
      refine wd_y 13 rfl (by kernel_rfl) rfl (y_index1 Try.underlying35 sz3 rfl rfl (rdr 1 rfl) (by omega) (by omega)) ?_
      refine wd_n 14 rfl (by kernel_rfl) (a_storeI 1 rfl sz3 rfl rfl (by omega) (by omega)) ?_
      rintro _ _ rfl
      refine ⟨.inl (by kernel_rfl), ?_⟩
      refine wd_rows (R1 := (⟨51, 2, (some ⟨g_7, 0, none⟩), 1, 1, [.int .i64 ((rdp l1 i).1), .int .i64 ((rdp l1 i).2)], false⟩ :: ⟨3, 1, (some ⟨g_5, 0, none⟩), rs.length, rs.length, ints .i64 (upd rk ((rd bs ((rdp l1 i).1)) + ((rdp l1 i).2)) n), false⟩ :: ⟨3, 1, (some ⟨g_3, 0, none⟩), 1, 1, [.int .i64 h], false⟩ :: ⟨74, 1, (some ⟨g_1, 0, none⟩), 1, 1, [.pointer (some ⟨g_s, 0, none⟩)], false⟩ :: ⟨76, 4, (some ⟨g_s, 0, none⟩), 1, 1, [.slice A_w ws.length c_w, .slice A_t n_t c_t, .slice A_b bs.length c_b, .slice A_r rs.length c_r], false⟩ :: ⟨51, 2, A_o, ts.length, c_o, prs l1, false⟩ :: ⟨3, 1, A_b, bs.length, c_b, ints .i64 bs, false⟩ :: ⟨3, 1, A_r, rs.length, c_r, ints .i64 rs, false⟩ :: R)) rfl ?_
      refine wd_nil (by kernel_rfl) ?_
      refine w_reg ?_
      refine wr_y rfl (y_addI rfl rfl (by omega)) ?_
      refine wr_y rfl (y_move rfl) ?_
      refine wr_nil ?_
      exact ⟨i + 1, n, upd rk ((rd bs ((rdp l1 i).1)) + ((rdp l1 i).2)) n, ⟨(by omega), (by omega), (by omega), (by have h0 : i = 0 := (by omega); subst h0; exact hn), (by rw [upd, List.length_set]; exact hkl), (ranks_step hnd1 hij hi0 (by omega) hps (by unfold posT; omega) hrk (by have e : (i + 1 - 1) = i := (by omega); have hc := (by have h0 : i = 0 := (by omega); subst h0; exact hn : _ = clsF ws bs rs h l1 (i + 1 - 1).toNat); rw [e] at hc; exact hc))⟩, (by omega), (Sub.cons rfl (Sub.cons rfl (Sub.cons rfl (Sub.cons rfl (Sub.cons rfl (Sub.cons rfl (Sub.cons rfl (Sub.cons rfl Sub.nil)))))))), fun _ h => h.selR (F := [_, _, _, _, _, _, _, _]) (F' := [_, _, _, _, _, _, _]) [1, 2, 3, 4, 5, 6, 7] (by decide) rfl⟩
  ·
    refine w_exit ?_
    refine w_seq ?_
    refine w_reg ?_
    refine wr_y rfl (y_ldIn (rdR 2 (r := ⟨74, 1, (some ⟨g_1, 0, none⟩), 1, 1, [.pointer (some ⟨g_s, 0, none⟩)], false⟩) rfl) Try.underlying74 rfl rfl rfl) ?_
    refine wr_y rfl (y_move rfl) ?_
    refine wr_y rfl (y_nilCheck rfl) ?_
    refine wr_y rfl (y_fieldAt (off := 3) (m := 3) Try.underlying76 rfl sz35 rfl rfl rfl) ?_
    refine wr_n (a_storeAt 3 rfl rfl rfl sz35 rfl rfl rfl rfl (Nat.le_of_ble_eq_true rfl)) ?_
    rintro _ _ rfl
    refine wr_rows (R1 := (⟨3, 1, (some ⟨g_5, 0, none⟩), rs.length, rs.length, ints .i64 rk, false⟩ :: ⟨3, 1, (some ⟨g_3, 0, none⟩), 1, 1, [.int .i64 h], false⟩ :: ⟨74, 1, (some ⟨g_1, 0, none⟩), 1, 1, [.pointer (some ⟨g_s, 0, none⟩)], false⟩ :: ⟨76, 4, (some ⟨g_s, 0, none⟩), 1, 1, [.slice A_w ws.length c_w, .slice A_t n_t c_t, .slice A_b bs.length c_b, .slice (some ⟨g_5, 0, none⟩) rs.length rs.length], false⟩ :: ⟨51, 2, A_o, ts.length, c_o, prs l1, false⟩ :: ⟨3, 1, A_b, bs.length, c_b, ints .i64 bs, false⟩ :: ⟨3, 1, A_r, rs.length, c_r, ints .i64 rs, false⟩ :: R)) rfl ?_
    refine wr_nil ?_
    refine w_seq ?_
    refine w_reg ?_
    refine wr_y rfl (y_move rfl) ?_
    refine wr_y rfl (y_assign rfl) ?_
    refine wr_nil ?_
    refine w_retR (R1 := (⟨76, 4, (some ⟨g_s, 0, none⟩), 1, 1, [.slice A_w ws.length c_w, .slice A_t n_t c_t, .slice A_b bs.length c_b, .slice (some ⟨g_5, 0, none⟩) rs.length rs.length], false⟩ :: ⟨51, 2, A_o, ts.length, c_o, prs l1, false⟩ :: ⟨3, 1, A_b, bs.length, c_b, ints .i64 bs, false⟩ :: ⟨3, 1, (some ⟨g_5, 0, none⟩), rs.length, rs.length, ints .i64 rk, false⟩ :: R)) (fun _ h => h.selR (F := [_, _, _, _, _, _, _]) (F' := [_, _, _, _]) [3, 4, 5, 0] (by decide) rfl) ?_
    refine ⟨_, rfl, ?_⟩
    obtain rfl : i = l1.length := by omega
    refine ⟨l1, rk, _, _, ?_, hp1, hs1, hkl, fun j hj => hrk j (by omega), rfl⟩
    rw [hn, show ((l1.length : Int) - 1).toNat = l1.length - 1 by omega]

end Go.Proofs.Ytdfcnalkdlifiaa
