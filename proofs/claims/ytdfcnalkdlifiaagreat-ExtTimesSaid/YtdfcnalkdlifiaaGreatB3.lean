/- Several texts of our own in one: F6, E22, E28, S3, S4, N3, E23, E29, N4, F2, N5, N6, G1, Q14, Q16, Q17, Q20, E20, Q25, Q27. -/
import Derived.Laws.CopyRow
import Derived.Laws.IdiomCopy
import Derived.Lib.MakeNoZero
import Derived.Shelf.Bits.Mul64
import Derived.Test.YtdfcnalkdlifiaaGreatProg
import Derived.Ground.SlsfProg
import Derived.Shelf.SlSortCmp.NoneTotal
import Derived.Test.YtdfcnalkdlifiaaGreatB2
/-! ## F6 -/
namespace Go.Proofs.YtdfcnalkdlifiaaGreat
open Go Go.Eng Go.Pure
set_option linter.unusedVariables false
set_option maxRecDepth 100000 in
theorem orI_ct {w : World} {A_l : Option Addr} {n_l c_l : Nat} {l : List Int} (h_l : Rd w A_l n_l c_l 1 (ints .i64 l)) :
    Ct Tryz.prog 57 #[.slice A_l n_l c_l] w.heap.size w [] (fun v R' => v = .int .i64 (orL l)) := by
  obtain rfl := h_l.lenI
  refine fn1 Tryz.func57 rfl rfl rfl ?_
  have m_l := h_l.max
  refine w_seq ?_
  refine w_reg ?_
  refine wr_y rfl (y_assign rfl) ?_
  refine wr_nil ?_
  refine w_seq ?_
  refine w_reg ?_
  refine wr_y rfl (y_assign rfl) ?_
  refine wr_nil ?_
  refine w_seq ?_
  refine w_seq ?_
  refine w_reg ?_
  refine wr_y rfl (y_move rfl) ?_
  refine wr_y rfl (y_len Tryz.underlying24 rfl) ?_
  refine wr_y rfl (y_move rfl) ?_
  refine wr_nil ?_
  refine w_block ?_
  refine w_loop1 (fun (k : Int) => [(3, .int .i64 0), (6, .slice A_l l.length c_l), (7, .int .i64 ((l.length : Nat) : Int)), (8, .int .i64 k)]) (fun (k : Int) => []) (fun (k : Int) => (0 ≤ k) ∧ (k ≤ l.length) ∧ (orL l = orL (l.drop k.toNat))) (fun (k : Int) => (l.length - k).toNat) ?_ ?_
  ·
    exact ⟨0, ⟨(by omega), (by omega), (rfl)⟩, (Sub.cons rfl (Sub.cons rfl (Sub.cons rfl (Sub.cons rfl Sub.nil)))), fun _ h => h⟩
  intro k ⟨hk0, hk1, ho⟩
  refine w_seq ?_
  refine w_reg ?_
  refine wr_y rfl (y_lt rfl rfl) ?_
  refine wr_nil ?_
  refine w_seq ?_
  refine w_if rfl (fun hc1 => ?_) (fun hc1 => ?_)
  ·
    refine w_skip ?_
    refine w_seq ?_
    refine w_block ?_
    refine w_seq ?_
    refine w_reg ?_
    refine wr_y rfl (y_index1 Tryz.underlying24 sz3 rfl rfl (h_l.c _) (by omega) (by omega)) ?_
    refine wr_y rfl (y_ldI Tryz.underlying3 rfl rfl (h_l.c _) (by omega) (by omega)) ?_
    refine wr_y rfl (y_assign rfl) ?_
    refine wr_nil ?_
    refine w_seq ?_
    refine w_reg ?_
    refine wr_y rfl (y_move rfl) ?_
    refine wr_y rfl (y_move rfl) ?_
    refine wr_y rfl (y_ne rfl rfl) ?_
    refine wr_nil ?_
    refine w_if rfl (fun hc2 => ?_) (fun hc2 => ?_)
    ·
      refine w_seq ?_
      refine w_reg ?_
      refine wr_y rfl (y_move rfl) ?_
      refine wr_y rfl (y_assign rfl) ?_
      refine wr_nil ?_
      refine w_ret ?_
      refine ⟨_, rfl, ?_⟩
      exact congrArg (Value.int .i64) (by rw [ho, orL_hit hk0 (by omega) (by omega)])
    ·
      refine w_skip ?_
      refine w_reg ?_
      refine wr_y rfl (y_addI rfl rfl (by omega)) ?_
      refine wr_y rfl (y_move rfl) ?_
      refine wr_nil ?_
      exact ⟨k + 1, ⟨(by omega), (by omega), (by rw [ho, orL_go hk0 (by omega) (by omega)])⟩, (by omega), (Sub.cons rfl (Sub.cons rfl (Sub.cons rfl (Sub.cons rfl Sub.nil)))), fun _ h => h⟩
  ·
    refine w_exit ?_
    refine w_seq ?_
    refine w_reg ?_
    refine wr_y rfl (y_move rfl) ?_
    refine wr_y rfl (y_assign rfl) ?_
    refine wr_nil ?_
    refine w_ret ?_
    refine ⟨_, rfl, ?_⟩
    exact congrArg (Value.int .i64) (by rw [ho, List.drop_of_length_le (by omega)]; rfl)

set_option maxRecDepth 100000 in
theorem ahead_ct {w : World} {g_s : Nat} {A_w A_t A_b A_r : Option Addr} {n_t c_w c_t c_b c_r : Nat} {vals_w : List Value} {ws : List (List Int)} {bs rs : List Int} {t1 t2 : Int} {h : Int} (h_s : Rd w (some ⟨g_s, 0, none⟩) 1 1 4 [.slice A_w ws.length c_w, .slice A_t n_t c_t, .slice A_b bs.length c_b, .slice A_r rs.length c_r]) (h_w : Rd w A_w ws.length c_w 1 vals_w) (s_w : SlW .u8 w vals_w ws) (h_b : Rd w A_b bs.length c_b 1 (ints .i64 bs)) (h_r : Rd w A_r rs.length c_r 1 (ints .i64 rs)) (ha_t : 0 ≤ t1 ∧ t1 < ws.length ∧ t1 < bs.length) (hb_t : 0 ≤ t2 ∧ t2 ≤ 1000000) (hc_t : 0 < (rdl ws t1).length) (hd_t : 0 ≤ rd bs t1 ∧ rd bs t1 + (rdl ws t1).length ≤ rs.length) (hh : 0 ≤ h ∧ h ≤ 1000000) :
    Ct Tryz.prog 60 #[.pointer (some ⟨g_s, 0, none⟩), .agg #[.int .i64 t1, .int .i64 t2], .int .i64 h] w.heap.size w [] (fun v R' => v = .int .i64 (ahd ws bs rs (t1, t2) h)) := by
  refine fn1 Tryz.func60 rfl rfl rfl ?_
  have m_r := h_r.max
  have m_b := h_b.max
  have m_w := h_w.max
  have e1 := Int.emod_nonneg (t2 + h) (show ((rdl ws t1).length : Int) ≠ 0 by omega)
  have e2 := Int.emod_lt_of_pos (t2 + h) (show (0 : Int) < ((rdl ws t1).length : Int) by omega)
  refine w_seq ?_
  refine w_reg ?_
  refine wr_a rfl (a_box (sz := 2) rfl rfl) ?_
  rintro _ _ ⟨g_1, rfl, rfl⟩
  refine wr_rows (R1 := [⟨45, 2, (some ⟨g_1, 0, none⟩), 1, 1, [.int .i64 t1, .int .i64 t2], false⟩]) rfl ?_
  refine wr_y rfl (y_assign rfl) ?_
  refine wr_nil ?_
  refine w_seq ?_
  refine w_regd mixed ?_
  refine wd_y 0 rfl (by kernel_rfl) rfl (y_move rfl) ?_
  refine wd_y 1 rfl (by kernel_rfl) rfl (y_nilCheck rfl) ?_
  refine wd_y 2 rfl (by kernel_rfl) rfl (y_fieldAt (off := 3) (m := 3) Tryz.underlying67 rfl sz24 rfl rfl rfl) ?_
  refine wd_y 3 rfl (by kernel_rfl) rfl (y_ldIn (h_s.c _) Tryz.underlying24 rfl rfl rfl) ?_
  refine wd_y 4 rfl (by kernel_rfl) rfl (y_move rfl) ?_
  refine wd_y 5 rfl (by kernel_rfl) rfl (y_nilCheck rfl) ?_
  refine wd_y 6 rfl (by kernel_rfl) rfl (y_fieldAt (off := 2) (m := 2) Tryz.underlying67 rfl sz24 rfl rfl rfl) ?_
  refine wd_y 7 rfl (by kernel_rfl) rfl (y_ldIn (h_s.c _) Tryz.underlying24 rfl rfl rfl) ?_
  refine wd_y 8 rfl (by kernel_rfl) rfl (y_indexIn (q := 0) (rdR 0 (r := ⟨45, 2, (some ⟨g_1, 0, none⟩), 1, 1, [.int .i64 t1, .int .i64 t2], false⟩) rfl) Tryz.underlying45 sz3 rfl rfl (Nat.le_of_ble_eq_true rfl) (by decide) (by decide) rfl) ?_
  refine wd_y 9 rfl (by kernel_rfl) rfl (y_ldIn (rdR 0 (r := ⟨45, 2, (some ⟨g_1, 0, none⟩), 1, 1, [.int .i64 t1, .int .i64 t2], false⟩) rfl) Tryz.underlying3 rfl rfl rfl) ?_
  refine wd_y 10 rfl (by kernel_rfl) rfl (y_index1 Tryz.underlying24 sz3 rfl rfl (h_b.c _) (by omega) (by omega)) ?_
  refine wd_y 11 rfl (by kernel_rfl) rfl (y_ldI Tryz.underlying3 rfl rfl (h_b.c _) (by omega) (by omega)) ?_
  refine wd_y 12 rfl (by kernel_rfl) rfl (y_indexIn (q := 1) (rdR 0 (r := ⟨45, 2, (some ⟨g_1, 0, none⟩), 1, 1, [.int .i64 t1, .int .i64 t2], false⟩) rfl) Tryz.underlying45 sz3 rfl rfl (Nat.le_of_ble_eq_true rfl) (by decide) (by decide) rfl) ?_
  refine wd_y 13 rfl (by kernel_rfl) rfl (y_ldIn (rdR 0 (r := ⟨45, 2, (some ⟨g_1, 0, none⟩), 1, 1, [.int .i64 t1, .int .i64 t2], false⟩) rfl) Tryz.underlying3 rfl rfl rfl) ?_
  refine wd_y 14 rfl (by kernel_rfl) rfl (y_move rfl) ?_
  refine wd_y 15 rfl (by kernel_rfl) rfl (y_addI rfl rfl (by omega)) ?_
  refine wd_y 16 rfl (by kernel_rfl) rfl (y_move rfl) ?_
  refine wd_y 17 rfl (by kernel_rfl) rfl (y_nilCheck rfl) ?_
  refine wd_y 18 rfl (by kernel_rfl) rfl (y_fieldAt (off := 0) (m := 0) Tryz.underlying67 rfl sz22 rfl rfl rfl) ?_
  refine wd_y 19 rfl (by kernel_rfl) rfl (y_ldIn (h_s.c _) Tryz.underlying22 rfl rfl rfl) ?_
  refine wd_y 20 rfl (by kernel_rfl) rfl (y_indexIn (q := 0) (rdR 0 (r := ⟨45, 2, (some ⟨g_1, 0, none⟩), 1, 1, [.int .i64 t1, .int .i64 t2], false⟩) rfl) Tryz.underlying45 sz3 rfl rfl (Nat.le_of_ble_eq_true rfl) (by decide) (by decide) rfl) ?_
  refine wd_y 21 rfl (by kernel_rfl) rfl (y_ldIn (rdR 0 (r := ⟨45, 2, (some ⟨g_1, 0, none⟩), 1, 1, [.int .i64 t1, .int .i64 t2], false⟩) rfl) Tryz.underlying3 rfl rfl rfl) ?_
  refine wd_y 22 rfl (by kernel_rfl) rfl (y_index1 Tryz.underlying22 sz23 rfl rfl (h_w.c _) (by omega) (by omega)) ?_
  obtain ⟨A_3, c_4, hv_5, hr_6, hb_7, mhr_6⟩ := s_w.at (i := t1) (by omega) (by omega)
  refine wd_y 23 rfl (by kernel_rfl) rfl (y_ld Tryz.underlying23 rfl rfl rfl (h_w.c _) hv_5) ?_
  refine wd_y 24 rfl (by kernel_rfl) rfl (y_len Tryz.underlying23 rfl) ?_
  refine wd_y 25 rfl (by kernel_rfl) rfl (y_rem rfl rfl (by omega) (by omega)) ?_
  refine wd_y 26 rfl (by kernel_rfl) rfl (y_addI rfl rfl (by omega)) ?_
  refine wd_y 27 rfl (by kernel_rfl) rfl (y_index1 Tryz.underlying24 sz3 rfl rfl (h_r.c _) (by omega) (by omega)) ?_
  refine wd_y 28 rfl (by kernel_rfl) rfl (y_ldI Tryz.underlying3 rfl rfl (h_r.c _) (by omega) (by omega)) ?_
  refine wd_y 29 rfl (by kernel_rfl) rfl (y_assign rfl) ?_
  refine wd_nil (by kernel_rfl) ?_
  refine w_retR (R1 := []) (fun _ h => h.sel [] (by decide) rfl) ?_
  refine ⟨_, rfl, ?_⟩
  rfl

set_option maxRecDepth 100000 in
theorem own_ct {w : World} {g_s : Nat} {A_w A_t A_b A_r : Option Addr} {n_t c_w c_t c_b c_r : Nat} {vals_w : List Value} {ws : List (List Int)} {bs rs : List Int} {t1 t2 : Int} (h_s : Rd w (some ⟨g_s, 0, none⟩) 1 1 4 [.slice A_w ws.length c_w, .slice A_t n_t c_t, .slice A_b bs.length c_b, .slice A_r rs.length c_r]) (h_w : Rd w A_w ws.length c_w 1 vals_w) (s_w : SlW .u8 w vals_w ws) (h_b : Rd w A_b bs.length c_b 1 (ints .i64 bs)) (h_r : Rd w A_r rs.length c_r 1 (ints .i64 rs)) (ha_t : 0 ≤ t1 ∧ t1 < ws.length ∧ t1 < bs.length) (hb_t : 0 ≤ t2 ∧ t2 ≤ 1000000) (hc_t : 0 < (rdl ws t1).length) (hd_t : 0 ≤ rd bs t1 ∧ rd bs t1 + (rdl ws t1).length ≤ rs.length) :
    Ct Tryz.prog 59 #[.pointer (some ⟨g_s, 0, none⟩), .agg #[.int .i64 t1, .int .i64 t2]] w.heap.size w [] (fun v R' => v = .int .i64 (ahd ws bs rs (t1, t2) 0)) := by
  refine fn1 Tryz.func59 rfl rfl rfl ?_
  have m_r := h_r.max
  have m_b := h_b.max
  have m_w := h_w.max
  refine w_seq ?_
  refine w_reg ?_
  refine wr_a rfl (a_box (sz := 2) rfl rfl) ?_
  rintro _ _ ⟨g_1, rfl, rfl⟩
  refine wr_rows (R1 := [⟨45, 2, (some ⟨g_1, 0, none⟩), 1, 1, [.int .i64 t1, .int .i64 t2], false⟩]) rfl ?_
  refine wr_y rfl (y_assign rfl) ?_
  refine wr_nil ?_
  refine w_seq ?_
  refine w_reg ?_
  refine wr_y rfl (y_move rfl) ?_
  refine wr_y rfl (y_ldInA (vs := [.int .i64 t1, .int .i64 t2]) (rdR 0 (r := ⟨45, 2, (some ⟨g_1, 0, none⟩), 1, 1, [.int .i64 t1, .int .i64 t2], false⟩) rfl) Tryz.underlying45 rfl sz45 rfl rfl (Nat.le_of_ble_eq_true rfl) rfl) ?_
  refine wr_a rfl (a_callF en60 rfl (Ct.quiet (fun w hw => ahead_ct ((h_s.c _) w hw) ((h_w.c _) w hw) (s_w.c hw) ((h_b.c _) w hw) ((h_r.c _) w hw) (by first | assumption | omega | decide) (by first | assumption | omega | decide) (by first | assumption | omega | decide) (by first | assumption | omega | decide) (by first | assumption | omega | decide)))) ?_
  rintro _ _ ⟨rfl, rfl⟩
  refine wr_y rfl (y_assign rfl) ?_
  refine wr_nil ?_
  refine w_retR (R1 := []) (fun _ h => h.sel [] (by decide) rfl) ?_
  refine ⟨_, rfl, ?_⟩
  rfl

set_option maxRecDepth 100000 in
theorem turnCmp_ct {w : World} {t1 t2 : Int} {u1 u2 : Int} {g_s : Nat} {A_w A_t A_b A_r : Option Addr} {n_t c_w c_t c_b c_r : Nat} {vals_w : List Value} {ws : List (List Int)} {bs rs : List Int} {g_p : Nat} {g_h : Nat} {h : Int} (h_s : Rd w (some ⟨g_s, 0, none⟩) 1 1 4 [.slice A_w ws.length c_w, .slice A_t n_t c_t, .slice A_b bs.length c_b, .slice A_r rs.length c_r]) (h_w : Rd w A_w ws.length c_w 1 vals_w) (s_w : SlW .u8 w vals_w ws) (h_b : Rd w A_b bs.length c_b 1 (ints .i64 bs)) (h_r : Rd w A_r rs.length c_r 1 (ints .i64 rs)) (h_p : Rd w (some ⟨g_p, 0, none⟩) 1 1 1 [.pointer (some ⟨g_s, 0, none⟩)]) (h_h : Rd w (some ⟨g_h, 0, none⟩) 1 1 1 [.int .i64 h]) (ha_t : 0 ≤ t1 ∧ t1 < ws.length ∧ t1 < bs.length) (hb_t : 0 ≤ t2 ∧ t2 ≤ 1000000) (hc_t : 0 < (rdl ws t1).length) (hd_t : 0 ≤ rd bs t1 ∧ rd bs t1 + (rdl ws t1).length ≤ rs.length) (ha_u : 0 ≤ u1 ∧ u1 < ws.length ∧ u1 < bs.length) (hb_u : 0 ≤ u2 ∧ u2 ≤ 1000000) (hc_u : 0 < (rdl ws u1).length) (hd_u : 0 ≤ rd bs u1 ∧ rd bs u1 + (rdl ws u1).length ≤ rs.length) (hh : 0 ≤ h ∧ h ≤ 1000000) :
    Ct Tryz.prog 56 #[.agg #[.int .i64 t1, .int .i64 t2], .agg #[.int .i64 u1, .int .i64 u2], .pointer (some ⟨g_p, 0, none⟩), .pointer (some ⟨g_h, 0, none⟩)] w.heap.size w [] (fun v R' => v = .int .i64 (tcmp ws bs rs h (t1, t2) (u1, u2))) := by
  refine fn1 Tryz.func56 rfl rfl rfl ?_
  have m_r := h_r.max
  have m_b := h_b.max
  have m_w := h_w.max
  refine w_seq ?_
  refine w_reg ?_
  refine wr_a rfl (a_box (sz := 2) rfl rfl) ?_
  rintro _ _ ⟨g_1, rfl, rfl⟩
  refine wr_rows (R1 := [⟨45, 2, (some ⟨g_1, 0, none⟩), 1, 1, [.int .i64 t1, .int .i64 t2], false⟩]) rfl ?_
  refine wr_a rfl (a_box (sz := 2) rfl rfl) ?_
  rintro _ _ ⟨g_3, rfl, rfl⟩
  refine wr_rows (R1 := [⟨45, 2, (some ⟨g_3, 0, none⟩), 1, 1, [.int .i64 u1, .int .i64 u2], false⟩, ⟨45, 2, (some ⟨g_1, 0, none⟩), 1, 1, [.int .i64 t1, .int .i64 t2], false⟩]) rfl ?_
  refine wr_y rfl (y_assign rfl) ?_
  refine wr_nil ?_
  refine w_seq ?_
  refine w_regd mixed ?_
  refine wd_y 0 rfl (by kernel_rfl) rfl (y_ldIn (h_p.c _) Tryz.underlying65 rfl rfl rfl) ?_
  refine wd_y 1 rfl (by kernel_rfl) rfl (y_ldInA (vs := [.int .i64 t1, .int .i64 t2]) (rdR 1 (r := ⟨45, 2, (some ⟨g_1, 0, none⟩), 1, 1, [.int .i64 t1, .int .i64 t2], false⟩) rfl) Tryz.underlying45 rfl sz45 rfl rfl (Nat.le_of_ble_eq_true rfl) rfl) ?_
  refine wd_y 3 rfl (by kernel_rfl) rfl (y_ldIn (h_p.c _) Tryz.underlying65 rfl rfl rfl) ?_
  refine wd_y 4 rfl (by kernel_rfl) rfl (y_ldInA (vs := [.int .i64 u1, .int .i64 u2]) (rdR 0 (r := ⟨45, 2, (some ⟨g_3, 0, none⟩), 1, 1, [.int .i64 u1, .int .i64 u2], false⟩) rfl) Tryz.underlying45 rfl sz45 rfl rfl (Nat.le_of_ble_eq_true rfl) rfl) ?_
  refine wd_y 7 rfl (by kernel_rfl) rfl (y_ldIn (h_p.c _) Tryz.underlying65 rfl rfl rfl) ?_
  refine wd_y 8 rfl (by kernel_rfl) rfl (y_ldInA (vs := [.int .i64 t1, .int .i64 t2]) (rdR 1 (r := ⟨45, 2, (some ⟨g_1, 0, none⟩), 1, 1, [.int .i64 t1, .int .i64 t2], false⟩) rfl) Tryz.underlying45 rfl sz45 rfl rfl (Nat.le_of_ble_eq_true rfl) rfl) ?_
  refine wd_y 9 rfl (by kernel_rfl) rfl (y_ldIn (h_h.c _) Tryz.underlying3 rfl rfl rfl) ?_
  refine wd_y 11 rfl (by kernel_rfl) rfl (y_ldIn (h_p.c _) Tryz.underlying65 rfl rfl rfl) ?_
  refine wd_y 12 rfl (by kernel_rfl) rfl (y_ldInA (vs := [.int .i64 u1, .int .i64 u2]) (rdR 0 (r := ⟨45, 2, (some ⟨g_3, 0, none⟩), 1, 1, [.int .i64 u1, .int .i64 u2], false⟩) rfl) Tryz.underlying45 rfl sz45 rfl rfl (Nat.le_of_ble_eq_true rfl) rfl) ?_
  refine wd_y 13 rfl (by kernel_rfl) rfl (y_ldIn (h_h.c _) Tryz.underlying3 rfl rfl rfl) ?_
  refine wd_y 16 rfl (by kernel_rfl) rfl (y_indexIn (q := 0) (rdR 1 (r := ⟨45, 2, (some ⟨g_1, 0, none⟩), 1, 1, [.int .i64 t1, .int .i64 t2], false⟩) rfl) Tryz.underlying45 sz3 rfl rfl (Nat.le_of_ble_eq_true rfl) (by decide) (by decide) rfl) ?_
  refine wd_y 17 rfl (by kernel_rfl) rfl (y_ldIn (rdR 1 (r := ⟨45, 2, (some ⟨g_1, 0, none⟩), 1, 1, [.int .i64 t1, .int .i64 t2], false⟩) rfl) Tryz.underlying3 rfl rfl rfl) ?_
  refine wd_y 18 rfl (by kernel_rfl) rfl (y_indexIn (q := 0) (rdR 0 (r := ⟨45, 2, (some ⟨g_3, 0, none⟩), 1, 1, [.int .i64 u1, .int .i64 u2], false⟩) rfl) Tryz.underlying45 sz3 rfl rfl (Nat.le_of_ble_eq_true rfl) (by decide) (by decide) rfl) ?_
  refine wd_y 19 rfl (by kernel_rfl) rfl (y_ldIn (rdR 0 (r := ⟨45, 2, (some ⟨g_3, 0, none⟩), 1, 1, [.int .i64 u1, .int .i64 u2], false⟩) rfl) Tryz.underlying3 rfl rfl rfl) ?_
  refine wd_y 21 rfl (by kernel_rfl) rfl (y_indexIn (q := 1) (rdR 1 (r := ⟨45, 2, (some ⟨g_1, 0, none⟩), 1, 1, [.int .i64 t1, .int .i64 t2], false⟩) rfl) Tryz.underlying45 sz3 rfl rfl (Nat.le_of_ble_eq_true rfl) (by decide) (by decide) rfl) ?_
  refine wd_y 22 rfl (by kernel_rfl) rfl (y_ldIn (rdR 1 (r := ⟨45, 2, (some ⟨g_1, 0, none⟩), 1, 1, [.int .i64 t1, .int .i64 t2], false⟩) rfl) Tryz.underlying3 rfl rfl rfl) ?_
  refine wd_y 23 rfl (by kernel_rfl) rfl (y_indexIn (q := 1) (rdR 0 (r := ⟨45, 2, (some ⟨g_3, 0, none⟩), 1, 1, [.int .i64 u1, .int .i64 u2], false⟩) rfl) Tryz.underlying45 sz3 rfl rfl (Nat.le_of_ble_eq_true rfl) (by decide) (by decide) rfl) ?_
  refine wd_y 24 rfl (by kernel_rfl) rfl (y_ldIn (rdR 0 (r := ⟨45, 2, (some ⟨g_3, 0, none⟩), 1, 1, [.int .i64 u1, .int .i64 u2], false⟩) rfl) Tryz.underlying3 rfl rfl rfl) ?_
  refine wd_a 2 rfl (by kernel_rfl) rfl (a_callF en59 rfl (Ct.quiet (fun w hw => own_ct ((h_s.c _) w hw) ((h_w.c _) w hw) (s_w.c hw) ((h_b.c _) w hw) ((h_r.c _) w hw) (by first | assumption | omega | decide) (by first | assumption | omega | decide) (by first | assumption | omega | decide) (by first | assumption | omega | decide)))) ?_
  rintro _ _ ⟨rfl, rfl⟩
  refine ⟨.inr fun _ h => h, ?_⟩
  refine wd_a 5 rfl (by kernel_rfl) rfl (a_callF en59 rfl (Ct.quiet (fun w hw => own_ct ((h_s.c _) w hw) ((h_w.c _) w hw) (s_w.c hw) ((h_b.c _) w hw) ((h_r.c _) w hw) (by first | assumption | omega | decide) (by first | assumption | omega | decide) (by first | assumption | omega | decide) (by first | assumption | omega | decide)))) ?_
  rintro _ _ ⟨rfl, rfl⟩
  refine ⟨.inr fun _ h => h, ?_⟩
  refine wd_a 6 rfl (by kernel_rfl) rfl (a_callF en58 rfl (Ct.quiet (fun w hw => compareI_ct))) ?_
  rintro _ _ ⟨rfl, rfl⟩
  refine ⟨.inr fun _ h => h, ?_⟩
  refine wd_a 10 rfl (by kernel_rfl) rfl (a_callF en60 rfl (Ct.quiet (fun w hw => ahead_ct ((h_s.c _) w hw) ((h_w.c _) w hw) (s_w.c hw) ((h_b.c _) w hw) ((h_r.c _) w hw) (by first | assumption | omega | decide) (by first | assumption | omega | decide) (by first | assumption | omega | decide) (by first | assumption | omega | decide) (by first | assumption | omega | decide)))) ?_
  rintro _ _ ⟨rfl, rfl⟩
  refine ⟨.inr fun _ h => h, ?_⟩
  refine wd_a 14 rfl (by kernel_rfl) rfl (a_callF en60 rfl (Ct.quiet (fun w hw => ahead_ct ((h_s.c _) w hw) ((h_w.c _) w hw) (s_w.c hw) ((h_b.c _) w hw) ((h_r.c _) w hw) (by first | assumption | omega | decide) (by first | assumption | omega | decide) (by first | assumption | omega | decide) (by first | assumption | omega | decide) (by first | assumption | omega | decide)))) ?_
  rintro _ _ ⟨rfl, rfl⟩
  refine ⟨.inr fun _ h => h, ?_⟩
  refine wd_a 15 rfl (by kernel_rfl) rfl (a_callF en58 rfl (Ct.quiet (fun w hw => compareI_ct))) ?_
  rintro _ _ ⟨rfl, rfl⟩
  refine ⟨.inr fun _ h => h, ?_⟩
  refine wd_a 20 rfl (by kernel_rfl) rfl (a_callF en58 rfl (Ct.quiet (fun w hw => compareI_ct))) ?_
  rintro _ _ ⟨rfl, rfl⟩
  refine ⟨.inr fun _ h => h, ?_⟩
  refine wd_a 25 rfl (by kernel_rfl) rfl (a_callF en58 rfl (Ct.quiet (fun w hw => compareI_ct))) ?_
  rintro _ _ ⟨rfl, rfl⟩
  refine ⟨.inr fun _ h => h, ?_⟩
  refine wd_a 26 rfl (by kernel_rfl) rfl (a_litI .i64 [cmpI (ahd ws bs rs (t1, t2) 0) (ahd ws bs rs (u1, u2) 0), cmpI (ahd ws bs rs (t1, t2) h) (ahd ws bs rs (u1, u2) h), cmpI t1 u1, cmpI t2 u2] Tryz.underlying24 zs3 rfl rfl rfl) ?_
  rintro _ _ ⟨g_6, rfl, rfl⟩
  refine ⟨.inr fun _ h => h.right (R' := [_]), ?_⟩
  refine wd_a 27 rfl (by kernel_rfl) rfl (a_callF en57 rfl (Ct.quiet (fun w hw => orI_ct ((rdr 0 rfl) w hw)))) ?_
  rintro _ _ ⟨rfl, rfl⟩
  refine ⟨.inr fun _ h => h, ?_⟩
  refine wd_y 28 rfl (by kernel_rfl) rfl (y_assign rfl) ?_
  refine wd_nil (by kernel_rfl) ?_
  refine w_retR (R1 := []) (fun _ h => h.sel [] (by decide) rfl) ?_
  refine ⟨_, rfl, ?_⟩
  rfl

theorem sortsTurns (cb : Array Value) : SortsK2 Tryz.prog 55 56 cb := fun α _ enc hk h1 cf hO blk off cap d w hcmp hH hblk hsz =>
  Tryz.slices_SortFunc 2 (fun w => by kernel_rfl) (fun w => by kernel_rfl) enc hk h1 cf hO 56 cb blk off cap d w en56 hcmp hH hblk hsz
set_option maxRecDepth 100000 in
theorem doubles_ct {B : Nat} {w0 : World} {R : List Row} {g_s : Nat} {A_w A_t A_b A_r A_o : Option Addr} {n_t n_o n_b n_r c_w c_t c_b c_r c_o : Nat} {vals_w : List Value} {ws : List (List Int)} {bs rs : List Int} {ts : List (Int × Int)} {h : Int} (hno : n_o = ts.length) (hnb : n_b = bs.length) (hnr : n_r = rs.length) (hrw : RdC B w0 R A_w ws.length c_w 1 vals_w) (hsw : ∀ w, Hp B w0 w R → SlW .u8 w vals_w ws) (hv : ∀ t ∈ ts, TOk ws bs rs.length t) (hinj : ∀ t ∈ ts, ∀ u ∈ ts, posT bs t = posT bs u → t = u) (hnd : ts.Nodup) (hne : ts ≠ []) (hN : rs.length ≤ 1000000 ∧ ts.length ≤ 1000000) (hh : 0 ≤ h ∧ h ≤ 1000000) :
    Ct Tryz.prog 35 #[.pointer (some ⟨g_s, 0, none⟩), .slice A_o n_o c_o, .int .i64 h] B w0 (⟨67, 4, (some ⟨g_s, 0, none⟩), 1, 1, [.slice A_w ws.length c_w, .slice A_t n_t c_t, .slice A_b n_b c_b, .slice A_r n_r c_r], false⟩ :: ⟨45, 2, A_o, n_o, c_o, prs ts, false⟩ :: ⟨3, 1, A_b, n_b, c_b, ints .i64 bs, false⟩ :: ⟨3, 1, A_r, n_r, c_r, ints .i64 rs, false⟩ :: R) (fun v R' => ∃ (l1 : List (Int × Int)) (rk : List Int) (A' : Option Addr) (c' : Nat), v = .int .i64 (clsF ws bs rs h l1 (l1.length - 1)) ∧ l1.Perm ts ∧ l1.Pairwise (fun x y => ¬ tcmp ws bs rs h y x < 0) ∧ rk.length = rs.length ∧ (∀ j : Nat, j < l1.length → rd rk (posT bs (rdp l1 j)) = clsF ws bs rs h l1 j) ∧ R' = ⟨67, 4, (some ⟨g_s, 0, none⟩), 1, 1, [.slice A_w ws.length c_w, .slice A_t n_t c_t, .slice A_b n_b c_b, .slice A' n_r c'], false⟩ :: ⟨45, 2, A_o, n_o, c_o, prs l1, false⟩ :: ⟨3, 1, A_b, n_b, c_b, ints .i64 bs, false⟩ :: ⟨3, 1, A', n_r, c', ints .i64 rk, false⟩ :: R) := by
  subst hno; subst hnb; subst hnr
  refine fn1 Tryz.func35 rfl rfl rfl ?_
  have hinj1 : ∀ t ∈ ts, 0 ≤ posT bs t := fun t ht => by have := hv t ht; unfold TOk at this; unfold posT; omega
  refine w_seq ?_
  refine w_reg ?_
  refine wr_a rfl (a_box (sz := 1) rfl rfl) ?_
  rintro _ _ ⟨g_1, rfl, rfl⟩
  refine wr_rows (R1 := (⟨65, 1, (some ⟨g_1, 0, none⟩), 1, 1, [.pointer (some ⟨g_s, 0, none⟩)], false⟩ :: ⟨67, 4, (some ⟨g_s, 0, none⟩), 1, 1, [.slice A_w ws.length c_w, .slice A_t n_t c_t, .slice A_b bs.length c_b, .slice A_r rs.length c_r], false⟩ :: ⟨45, 2, A_o, ts.length, c_o, prs ts, false⟩ :: ⟨3, 1, A_b, bs.length, c_b, ints .i64 bs, false⟩ :: ⟨3, 1, A_r, rs.length, c_r, ints .i64 rs, false⟩ :: R)) rfl ?_
  refine wr_a rfl (a_box (sz := 1) rfl rfl) ?_
  rintro _ _ ⟨g_3, rfl, rfl⟩
  refine wr_rows (R1 := (⟨3, 1, (some ⟨g_3, 0, none⟩), 1, 1, [.int .i64 h], false⟩ :: ⟨65, 1, (some ⟨g_1, 0, none⟩), 1, 1, [.pointer (some ⟨g_s, 0, none⟩)], false⟩ :: ⟨67, 4, (some ⟨g_s, 0, none⟩), 1, 1, [.slice A_w ws.length c_w, .slice A_t n_t c_t, .slice A_b bs.length c_b, .slice A_r rs.length c_r], false⟩ :: ⟨45, 2, A_o, ts.length, c_o, prs ts, false⟩ :: ⟨3, 1, A_b, bs.length, c_b, ints .i64 bs, false⟩ :: ⟨3, 1, A_r, rs.length, c_r, ints .i64 rs, false⟩ :: R)) rfl ?_
  refine wr_y rfl (y_assign rfl) ?_
  refine wr_nil ?_
  refine w_seq ?_
  refine w_reg ?_
  refine wr_y rfl (y_move rfl) ?_
  refine wr_y rfl (y_makeFunc rfl rfl) ?_
  refine wr_a rfl (a_callF en55 rfl (sort_pairs (sortsTurns _) 3 rfl hne (by omega) (tcmp ws bs rs h) (tcmp_swo ws bs rs h) (fun W hW x hx y hy => turnCmp_ct ((rdR 2 (r := ⟨67, 4, (some ⟨g_s, 0, none⟩), 1, 1, [.slice A_w ws.length c_w, .slice A_t n_t c_t, .slice A_b bs.length c_b, .slice A_r rs.length c_r], false⟩) rfl) W hW) ((RdC.right hrw [_, _, _, _, _]) W hW) (hsw W (Hp.right (R' := [_, _, _, _, _]) hW)) ((rdR 3 (r := ⟨3, 1, A_b, bs.length, c_b, ints .i64 bs, false⟩) rfl) W hW) ((rdR 4 (r := ⟨3, 1, A_r, rs.length, c_r, ints .i64 rs, false⟩) rfl) W hW) ((rdR 1 (r := ⟨65, 1, (some ⟨g_1, 0, none⟩), 1, 1, [.pointer (some ⟨g_s, 0, none⟩)], false⟩) rfl) W hW) ((rdR 0 (r := ⟨3, 1, (some ⟨g_3, 0, none⟩), 1, 1, [.int .i64 h], false⟩) rfl) W hW) (hv x hx).1 (by have := (hv x hx).2.1; omega) (hv x hx).2.2.1 (hv x hx).2.2.2 (hv y hy).1 (by have := (hv y hy).2.1; omega) (hv y hy).2.2.1 (hv y hy).2.2.2 hh))) ?_
  rintro _ _ ⟨rfl, l1, hp1, hs1, rfl⟩
  have hl1 := hp1.length_eq
  have hv1 : ∀ t ∈ l1, TOk ws bs rs.length t := fun t ht => hv t (hp1.mem_iff.1 ht)
  have hnd1 := hp1.nodup_iff.2 hnd
  refine wr_rows (R1 := (⟨3, 1, (some ⟨g_3, 0, none⟩), 1, 1, [.int .i64 h], false⟩ :: ⟨65, 1, (some ⟨g_1, 0, none⟩), 1, 1, [.pointer (some ⟨g_s, 0, none⟩)], false⟩ :: ⟨67, 4, (some ⟨g_s, 0, none⟩), 1, 1, [.slice A_w ws.length c_w, .slice A_t n_t c_t, .slice A_b bs.length c_b, .slice A_r rs.length c_r], false⟩ :: ⟨45, 2, A_o, ts.length, c_o, prs l1, false⟩ :: ⟨3, 1, A_b, bs.length, c_b, ints .i64 bs, false⟩ :: ⟨3, 1, A_r, rs.length, c_r, ints .i64 rs, false⟩ :: R)) rfl ?_
  refine wr_nil ?_
  refine w_seq ?_
  refine w_reg ?_
  refine wr_y rfl (y_ldIn (rdR 1 (r := ⟨65, 1, (some ⟨g_1, 0, none⟩), 1, 1, [.pointer (some ⟨g_s, 0, none⟩)], false⟩) rfl) Tryz.underlying65 rfl rfl rfl) ?_
  refine wr_y rfl (y_nilCheck rfl) ?_
  refine wr_y rfl (y_fieldAt (off := 3) (m := 3) Tryz.underlying67 rfl sz24 rfl rfl rfl) ?_
  refine wr_y rfl (y_ldIn (rdR 2 (r := ⟨67, 4, (some ⟨g_s, 0, none⟩), 1, 1, [.slice A_w ws.length c_w, .slice A_t n_t c_t, .slice A_b bs.length c_b, .slice A_r rs.length c_r], false⟩) rfl) Tryz.underlying24 rfl rfl rfl) ?_
  refine wr_y rfl (y_len Tryz.underlying24 rfl) ?_
  refine wr_a rfl (a_makeN Tryz.underlying24 zb3 rfl rfl (by omega) (by omega) (by omega)) ?_
  rintro _ _ ⟨g_5, rfl, rfl⟩
  refine wr_rows (R1 := (⟨3, 1, (some ⟨g_5, 0, none⟩), rs.length, rs.length, ints .i64 (List.replicate rs.length (0 : Int)), false⟩ :: ⟨3, 1, (some ⟨g_3, 0, none⟩), 1, 1, [.int .i64 h], false⟩ :: ⟨65, 1, (some ⟨g_1, 0, none⟩), 1, 1, [.pointer (some ⟨g_s, 0, none⟩)], false⟩ :: ⟨67, 4, (some ⟨g_s, 0, none⟩), 1, 1, [.slice A_w ws.length c_w, .slice A_t n_t c_t, .slice A_b bs.length c_b, .slice A_r rs.length c_r], false⟩ :: ⟨45, 2, A_o, ts.length, c_o, prs l1, false⟩ :: ⟨3, 1, A_b, bs.length, c_b, ints .i64 bs, false⟩ :: ⟨3, 1, A_r, rs.length, c_r, ints .i64 rs, false⟩ :: R)) rfl ?_
  refine wr_as (v := .slice (some ⟨g_5, 0, none⟩) rs.length rs.length) rfl ?_
  refine wr_y rfl (y_assign rfl) ?_
  refine wr_nil ?_
  refine w_seq ?_
  refine w_reg ?_
  refine wr_y rfl (y_assign rfl) ?_
  refine wr_nil ?_
  refine w_seq ?_
  refine w_seq ?_
  refine w_reg ?_
  refine wr_y rfl (y_move rfl) ?_
  refine wr_y rfl (y_len Tryz.underlying43 rfl) ?_
  refine wr_y rfl (y_move rfl) ?_
  refine wr_nil ?_
  refine w_block ?_
  refine w_loop3 (fun (i : Int) (n : Int) (rk : List Int) => [(1, .slice A_o ts.length c_o), (3, .pointer (some ⟨g_1, 0, none⟩)), (5, .pointer (some ⟨g_3, 0, none⟩)), (7, .slice (some ⟨g_5, 0, none⟩) rs.length rs.length), (8, .int .i64 n), (21, .slice A_o ts.length c_o), (22, .int .i64 ((ts.length : Nat) : Int)), (23, .int .i64 i)]) (fun (i : Int) (n : Int) (rk : List Int) => (⟨3, 1, (some ⟨g_5, 0, none⟩), rs.length, rs.length, ints .i64 rk, false⟩ :: ⟨3, 1, (some ⟨g_3, 0, none⟩), 1, 1, [.int .i64 h], false⟩ :: ⟨65, 1, (some ⟨g_1, 0, none⟩), 1, 1, [.pointer (some ⟨g_s, 0, none⟩)], false⟩ :: ⟨67, 4, (some ⟨g_s, 0, none⟩), 1, 1, [.slice A_w ws.length c_w, .slice A_t n_t c_t, .slice A_b bs.length c_b, .slice A_r rs.length c_r], false⟩ :: ⟨45, 2, A_o, ts.length, c_o, prs l1, false⟩ :: ⟨3, 1, A_b, bs.length, c_b, ints .i64 bs, false⟩ :: ⟨3, 1, A_r, rs.length, c_r, ints .i64 rs, false⟩ :: R)) (fun (i : Int) (n : Int) (rk : List Int) => (0 ≤ i) ∧ (i ≤ l1.length) ∧ (0 ≤ n ∧ n ≤ i) ∧ (n = clsF ws bs rs h l1 (i - 1).toNat) ∧ (rk.length = rs.length) ∧ (∀ j : Nat, j < i → rd rk (posT bs (rdp l1 j)) = clsF ws bs rs h l1 j)) (fun (i : Int) (n : Int) (rk : List Int) => (l1.length - i).toNat) ?_ ?_
  ·
    exact ⟨0, 0, List.replicate rs.length (0 : Int), ⟨(by omega), (by omega), (by omega), (rfl), (by rw [List.length_replicate]), (fun j hj => by omega)⟩, (Sub.cons rfl (Sub.cons rfl (Sub.cons rfl (Sub.cons rfl (Sub.cons rfl (Sub.cons rfl (Sub.cons rfl (Sub.cons rfl Sub.nil)))))))), fun _ h => h⟩
  intro i n rk ⟨hi0, hi1, hn0, hn, hkl, hrk⟩
  refine w_seq ?_
  refine w_reg ?_
  refine wr_y rfl (y_lt rfl rfl) ?_
  refine wr_nil ?_
  refine w_seq ?_
  refine w_if rfl (fun hc1 => ?_) (fun hc1 => ?_)
  ·
    have hq := hv1 _ (rdp_mem hi0 (show i < l1.length by omega))
    obtain ⟨⟨q1, q2, q3⟩, ⟨q4, q5, q6⟩, q7, q8, q9⟩ := hq
    have hps : ∀ t ∈ l1, 0 ≤ posT bs t := fun t ht => hinj1 t (hp1.mem_iff.1 ht)
    have hij : ∀ t ∈ l1, ∀ u ∈ l1, posT bs t = posT bs u → t = u := fun t ht u hu => hinj t (hp1.mem_iff.1 ht) u (hp1.mem_iff.1 hu)
    refine w_skip ?_
    refine w_seq ?_
    refine w_block ?_
    refine w_seq ?_
    refine w_reg ?_
    refine wr_y rfl (y_move rfl) ?_
    refine wr_y rfl (y_index Tryz.underlying43 sz45 rfl rfl (rdr 4 rfl) rfl (by omega) (by omega)) ?_
    refine wr_y rfl (y_ldP Tryz.underlying45 rfl sz45 rfl (rdr 4 rfl) (by omega) (by omega)) ?_
    refine wr_a rfl (a_alloc (sz := 2) zz45 rfl) ?_
    rintro _ _ ⟨g_7, rfl, rfl⟩
    refine wr_rows (R1 := (⟨45, 2, (some ⟨g_7, 0, none⟩), 1, 1, [.int .i64 0, .int .i64 0], false⟩ :: ⟨3, 1, (some ⟨g_5, 0, none⟩), rs.length, rs.length, ints .i64 rk, false⟩ :: ⟨3, 1, (some ⟨g_3, 0, none⟩), 1, 1, [.int .i64 h], false⟩ :: ⟨65, 1, (some ⟨g_1, 0, none⟩), 1, 1, [.pointer (some ⟨g_s, 0, none⟩)], false⟩ :: ⟨67, 4, (some ⟨g_s, 0, none⟩), 1, 1, [.slice A_w ws.length c_w, .slice A_t n_t c_t, .slice A_b bs.length c_b, .slice A_r rs.length c_r], false⟩ :: ⟨45, 2, A_o, ts.length, c_o, prs l1, false⟩ :: ⟨3, 1, A_b, bs.length, c_b, ints .i64 bs, false⟩ :: ⟨3, 1, A_r, rs.length, c_r, ints .i64 rs, false⟩ :: R)) rfl ?_
    refine wr_y rfl (y_assign rfl) ?_
    refine wr_n (a_storeAll (vs := [.int .i64 ((rdp l1 i).1), .int .i64 ((rdp l1 i).2)]) 0 rfl sz45 rfl rfl rfl (by intro v hv; simp at hv; rcases hv with rfl | rfl <;> rfl) rfl) ?_
    rintro _ _ rfl
    refine wr_rows (R1 := (⟨45, 2, (some ⟨g_7, 0, none⟩), 1, 1, [.int .i64 ((rdp l1 i).1), .int .i64 ((rdp l1 i).2)], false⟩ :: ⟨3, 1, (some ⟨g_5, 0, none⟩), rs.length, rs.length, ints .i64 rk, false⟩ :: ⟨3, 1, (some ⟨g_3, 0, none⟩), 1, 1, [.int .i64 h], false⟩ :: ⟨65, 1, (some ⟨g_1, 0, none⟩), 1, 1, [.pointer (some ⟨g_s, 0, none⟩)], false⟩ :: ⟨67, 4, (some ⟨g_s, 0, none⟩), 1, 1, [.slice A_w ws.length c_w, .slice A_t n_t c_t, .slice A_b bs.length c_b, .slice A_r rs.length c_r], false⟩ :: ⟨45, 2, A_o, ts.length, c_o, prs l1, false⟩ :: ⟨3, 1, A_b, bs.length, c_b, ints .i64 bs, false⟩ :: ⟨3, 1, A_r, rs.length, c_r, ints .i64 rs, false⟩ :: R)) rfl ?_
    refine wr_nil ?_
    refine w_seq ?_
    refine w_seq ?_
    refine w_reg ?_
    refine wr_y rfl (y_move rfl) ?_
    refine wr_y rfl (y_gt rfl rfl) ?_
    refine wr_nil ?_
    refine w_if rfl (fun hc2 => ?_) (fun hc2 => ?_)
    ·
      have hq' := hv1 _ (rdp_mem (show 0 ≤ i - 1 by omega) (show i - 1 < l1.length by omega))
      obtain ⟨⟨p1, p2, p3⟩, ⟨p4, p5, p6⟩, p7, p8, p9⟩ := hq'
      refine w_seq ?_
      refine w_reg ?_
      refine wr_y rfl (y_move rfl) ?_
      refine wr_y rfl (y_move rfl) ?_
      refine wr_y rfl (y_subI rfl rfl (by omega)) ?_
      refine wr_y rfl (y_index Tryz.underlying43 sz45 rfl rfl (rdr 5 rfl) rfl (by omega) (by omega)) ?_
      refine wr_y rfl (y_ldP Tryz.underlying45 rfl sz45 rfl (rdr 5 rfl) (by omega) (by omega)) ?_
      refine wr_a rfl (a_alloc (sz := 2) zz45 rfl) ?_
      rintro _ _ ⟨g_9, rfl, rfl⟩
      refine wr_rows (R1 := (⟨45, 2, (some ⟨g_9, 0, none⟩), 1, 1, [.int .i64 0, .int .i64 0], false⟩ :: ⟨45, 2, (some ⟨g_7, 0, none⟩), 1, 1, [.int .i64 ((rdp l1 i).1), .int .i64 ((rdp l1 i).2)], false⟩ :: ⟨3, 1, (some ⟨g_5, 0, none⟩), rs.length, rs.length, ints .i64 rk, false⟩ :: ⟨3, 1, (some ⟨g_3, 0, none⟩), 1, 1, [.int .i64 h], false⟩ :: ⟨65, 1, (some ⟨g_1, 0, none⟩), 1, 1, [.pointer (some ⟨g_s, 0, none⟩)], false⟩ :: ⟨67, 4, (some ⟨g_s, 0, none⟩), 1, 1, [.slice A_w ws.length c_w, .slice A_t n_t c_t, .slice A_b bs.length c_b, .slice A_r rs.length c_r], false⟩ :: ⟨45, 2, A_o, ts.length, c_o, prs l1, false⟩ :: ⟨3, 1, A_b, bs.length, c_b, ints .i64 bs, false⟩ :: ⟨3, 1, A_r, rs.length, c_r, ints .i64 rs, false⟩ :: R)) rfl ?_
      refine wr_n (a_storeAll (vs := [.int .i64 ((rdp l1 (i - 1)).1), .int .i64 ((rdp l1 (i - 1)).2)]) 0 rfl sz45 rfl rfl rfl (by intro v hv; simp at hv; rcases hv with rfl | rfl <;> rfl) rfl) ?_
      rintro _ _ rfl
      refine wr_rows (R1 := (⟨45, 2, (some ⟨g_9, 0, none⟩), 1, 1, [.int .i64 ((rdp l1 (i - 1)).1), .int .i64 ((rdp l1 (i - 1)).2)], false⟩ :: ⟨45, 2, (some ⟨g_7, 0, none⟩), 1, 1, [.int .i64 ((rdp l1 i).1), .int .i64 ((rdp l1 i).2)], false⟩ :: ⟨3, 1, (some ⟨g_5, 0, none⟩), rs.length, rs.length, ints .i64 rk, false⟩ :: ⟨3, 1, (some ⟨g_3, 0, none⟩), 1, 1, [.int .i64 h], false⟩ :: ⟨65, 1, (some ⟨g_1, 0, none⟩), 1, 1, [.pointer (some ⟨g_s, 0, none⟩)], false⟩ :: ⟨67, 4, (some ⟨g_s, 0, none⟩), 1, 1, [.slice A_w ws.length c_w, .slice A_t n_t c_t, .slice A_b bs.length c_b, .slice A_r rs.length c_r], false⟩ :: ⟨45, 2, A_o, ts.length, c_o, prs l1, false⟩ :: ⟨3, 1, A_b, bs.length, c_b, ints .i64 bs, false⟩ :: ⟨3, 1, A_r, rs.length, c_r, ints .i64 rs, false⟩ :: R)) rfl ?_
      refine wr_nil ?_
      refine w_join0 [(1, .slice A_o ts.length c_o), (3, .pointer (some ⟨g_1, 0, none⟩)), (5, .pointer (some ⟨g_3, 0, none⟩)), (7, .slice (some ⟨g_5, 0, none⟩) rs.length rs.length), (8, .int .i64 n), (10, .pointer (some ⟨g_7, 0, none⟩)), (21, .slice A_o ts.length c_o), (22, .int .i64 ((ts.length : Nat) : Int)), (23, .int .i64 i), (52, .bool (decide (((ahd ws bs rs (((rdp l1 (i - 1)).1), ((rdp l1 (i - 1)).2)) 0) ≠ (ahd ws bs rs (((rdp l1 i).1), ((rdp l1 i).2)) 0)) ∨ ((ahd ws bs rs (((rdp l1 (i - 1)).1), ((rdp l1 (i - 1)).2)) h) ≠ (ahd ws bs rs (((rdp l1 i).1), ((rdp l1 i).2)) h)))))] (⟨45, 2, (some ⟨g_9, 0, none⟩), 1, 1, [.int .i64 ((rdp l1 (i - 1)).1), .int .i64 ((rdp l1 (i - 1)).2)], false⟩ :: ⟨45, 2, (some ⟨g_7, 0, none⟩), 1, 1, [.int .i64 ((rdp l1 i).1), .int .i64 ((rdp l1 i).2)], false⟩ :: ⟨3, 1, (some ⟨g_5, 0, none⟩), rs.length, rs.length, ints .i64 rk, false⟩ :: ⟨3, 1, (some ⟨g_3, 0, none⟩), 1, 1, [.int .i64 h], false⟩ :: ⟨65, 1, (some ⟨g_1, 0, none⟩), 1, 1, [.pointer (some ⟨g_s, 0, none⟩)], false⟩ :: ⟨67, 4, (some ⟨g_s, 0, none⟩), 1, 1, [.slice A_w ws.length c_w, .slice A_t n_t c_t, .slice A_b bs.length c_b, .slice A_r rs.length c_r], false⟩ :: ⟨45, 2, A_o, ts.length, c_o, prs l1, false⟩ :: ⟨3, 1, A_b, bs.length, c_b, ints .i64 bs, false⟩ :: ⟨3, 1, A_r, rs.length, c_r, ints .i64 rs, false⟩ :: R) ?_ ?_
      ·
        refine w_regd mixed ?_
        refine wd_y 0 rfl (by kernel_rfl) rfl (y_ldIn (rdR 4 (r := ⟨65, 1, (some ⟨g_1, 0, none⟩), 1, 1, [.pointer (some ⟨g_s, 0, none⟩)], false⟩) rfl) Tryz.underlying65 rfl rfl rfl) ?_
        refine wd_y 1 rfl (by kernel_rfl) rfl (y_ldInA (vs := [.int .i64 ((rdp l1 (i - 1)).1), .int .i64 ((rdp l1 (i - 1)).2)]) (rdR 0 (r := ⟨45, 2, (some ⟨g_9, 0, none⟩), 1, 1, [.int .i64 ((rdp l1 (i - 1)).1), .int .i64 ((rdp l1 (i - 1)).2)], false⟩) rfl) Tryz.underlying45 rfl sz45 rfl rfl (Nat.le_of_ble_eq_true rfl) rfl) ?_
        refine wd_y 3 rfl (by kernel_rfl) rfl (y_ldIn (rdR 4 (r := ⟨65, 1, (some ⟨g_1, 0, none⟩), 1, 1, [.pointer (some ⟨g_s, 0, none⟩)], false⟩) rfl) Tryz.underlying65 rfl rfl rfl) ?_
        refine wd_y 4 rfl (by kernel_rfl) rfl (y_ldInA (vs := [.int .i64 ((rdp l1 i).1), .int .i64 ((rdp l1 i).2)]) (rdR 1 (r := ⟨45, 2, (some ⟨g_7, 0, none⟩), 1, 1, [.int .i64 ((rdp l1 i).1), .int .i64 ((rdp l1 i).2)], false⟩) rfl) Tryz.underlying45 rfl sz45 rfl rfl (Nat.le_of_ble_eq_true rfl) rfl) ?_
        refine wd_a 2 rfl (by kernel_rfl) rfl (a_callF en59 rfl (Ct.quiet (fun w hw => own_ct ((rdR 5 (r := ⟨67, 4, (some ⟨g_s, 0, none⟩), 1, 1, [.slice A_w ws.length c_w, .slice A_t n_t c_t, .slice A_b bs.length c_b, .slice A_r rs.length c_r], false⟩) rfl) w hw) ((RdC.right hrw [_, _, _, _, _, _, _, _, _]) w hw) (hsw w (Hp.right (R' := [_, _, _, _, _, _, _, _, _]) hw)) ((rdr 7 rfl) w hw) ((rdr 8 rfl) w hw) (by first | assumption | omega | decide) (by first | assumption | omega | decide) (by first | assumption | omega | decide) (by first | assumption | omega | decide)))) ?_
        rintro _ _ ⟨rfl, rfl⟩
        refine ⟨.inr fun _ h => h, ?_⟩
        refine wd_a 5 rfl (by kernel_rfl) rfl (a_callF en59 rfl (Ct.quiet (fun w hw => own_ct ((rdR 5 (r := ⟨67, 4, (some ⟨g_s, 0, none⟩), 1, 1, [.slice A_w ws.length c_w, .slice A_t n_t c_t, .slice A_b bs.length c_b, .slice A_r rs.length c_r], false⟩) rfl) w hw) ((RdC.right hrw [_, _, _, _, _, _, _, _, _]) w hw) (hsw w (Hp.right (R' := [_, _, _, _, _, _, _, _, _]) hw)) ((rdr 7 rfl) w hw) ((rdr 8 rfl) w hw) (by first | assumption | omega | decide) (by first | assumption | omega | decide) (by first | assumption | omega | decide) (by first | assumption | omega | decide)))) ?_
        rintro _ _ ⟨rfl, rfl⟩
        refine ⟨.inr fun _ h => h, ?_⟩
        refine wd_y 6 rfl (by kernel_rfl) rfl (y_ne rfl rfl) ?_
        refine wd_y 7 rfl (by kernel_rfl) rfl (y_move rfl) ?_
        refine wd_case 42 rfl (fun hc3 => ?_) (fun hc3 => ?_)
        ·
          refine wd_no 8 rfl (by kernel_rfl) rfl rfl rfl rfl ?_
          refine wd_no 9 rfl (by kernel_rfl) rfl rfl rfl rfl ?_
          refine wd_no 10 rfl (by kernel_rfl) rfl rfl rfl rfl ?_
          refine wd_no 11 rfl (by kernel_rfl) rfl rfl rfl rfl ?_
          refine wd_no 12 rfl (by kernel_rfl) rfl rfl rfl rfl ?_
          refine wd_no 13 rfl (by kernel_rfl) rfl rfl rfl rfl ?_
          refine wd_no 14 rfl (by kernel_rfl) rfl rfl rfl rfl ?_
          refine wd_no 15 rfl (by kernel_rfl) rfl rfl rfl rfl ?_
          refine wd_no 16 rfl (by kernel_rfl) rfl rfl rfl rfl ?_
          refine wd_y 17 rfl (by kernel_rfl) rfl (y_pickT rfl rfl) ?_
          refine wd_nil (by kernel_rfl) ?_
          exact ⟨(Sub.cons rfl (Sub.cons rfl (Sub.cons rfl (Sub.cons rfl (Sub.cons rfl (Sub.cons rfl (Sub.cons rfl (Sub.cons rfl (Sub.cons rfl (Sub.to rfl (mb_t (by first | omega | exact ⟨fun h => ⟨(by assumption), h⟩, fun h => h.2⟩ | exact .inl (by assumption) | exact ⟨.inr, fun h => h.resolve_left (by assumption)⟩ | exact ⟨fun h => h.resolve_left (by assumption), .inr⟩ | simp [*])) Sub.nil)))))))))), fun _ h => h⟩
        ·
          refine wd_yg 8 rfl (by kernel_rfl) rfl rfl rfl (y_ldIn (rdR 4 (r := ⟨65, 1, (some ⟨g_1, 0, none⟩), 1, 1, [.pointer (some ⟨g_s, 0, none⟩)], false⟩) rfl) Tryz.underlying65 rfl rfl rfl) ?_
          refine wd_yg 9 rfl (by kernel_rfl) rfl rfl rfl (y_ldInA (vs := [.int .i64 ((rdp l1 (i - 1)).1), .int .i64 ((rdp l1 (i - 1)).2)]) (rdR 0 (r := ⟨45, 2, (some ⟨g_9, 0, none⟩), 1, 1, [.int .i64 ((rdp l1 (i - 1)).1), .int .i64 ((rdp l1 (i - 1)).2)], false⟩) rfl) Tryz.underlying45 rfl sz45 rfl rfl (Nat.le_of_ble_eq_true rfl) rfl) ?_
          refine wd_yg 10 rfl (by kernel_rfl) rfl rfl rfl (y_ldIn (rdR 3 (r := ⟨3, 1, (some ⟨g_3, 0, none⟩), 1, 1, [.int .i64 h], false⟩) rfl) Tryz.underlying3 rfl rfl rfl) ?_
          refine wd_yg 12 rfl (by kernel_rfl) rfl rfl rfl (y_ldIn (rdR 4 (r := ⟨65, 1, (some ⟨g_1, 0, none⟩), 1, 1, [.pointer (some ⟨g_s, 0, none⟩)], false⟩) rfl) Tryz.underlying65 rfl rfl rfl) ?_
          refine wd_yg 13 rfl (by kernel_rfl) rfl rfl rfl (y_ldInA (vs := [.int .i64 ((rdp l1 i).1), .int .i64 ((rdp l1 i).2)]) (rdR 1 (r := ⟨45, 2, (some ⟨g_7, 0, none⟩), 1, 1, [.int .i64 ((rdp l1 i).1), .int .i64 ((rdp l1 i).2)], false⟩) rfl) Tryz.underlying45 rfl sz45 rfl rfl (Nat.le_of_ble_eq_true rfl) rfl) ?_
          refine wd_yg 14 rfl (by kernel_rfl) rfl rfl rfl (y_ldIn (rdR 3 (r := ⟨3, 1, (some ⟨g_3, 0, none⟩), 1, 1, [.int .i64 h], false⟩) rfl) Tryz.underlying3 rfl rfl rfl) ?_
          refine wd_ag 11 rfl (by kernel_rfl) rfl rfl rfl (a_callF en60 rfl (Ct.quiet (fun w hw => ahead_ct ((rdR 5 (r := ⟨67, 4, (some ⟨g_s, 0, none⟩), 1, 1, [.slice A_w ws.length c_w, .slice A_t n_t c_t, .slice A_b bs.length c_b, .slice A_r rs.length c_r], false⟩) rfl) w hw) ((RdC.right hrw [_, _, _, _, _, _, _, _, _]) w hw) (hsw w (Hp.right (R' := [_, _, _, _, _, _, _, _, _]) hw)) ((rdr 7 rfl) w hw) ((rdr 8 rfl) w hw) (by first | assumption | omega | decide) (by first | assumption | omega | decide) (by first | assumption | omega | decide) (by first | assumption | omega | decide) (by first | assumption | omega | decide)))) ?_
          rintro _ _ ⟨rfl, rfl⟩
          refine ⟨.inr fun _ h => h, ?_⟩
          refine wd_ag 15 rfl (by kernel_rfl) rfl rfl rfl (a_callF en60 rfl (Ct.quiet (fun w hw => ahead_ct ((rdR 5 (r := ⟨67, 4, (some ⟨g_s, 0, none⟩), 1, 1, [.slice A_w ws.length c_w, .slice A_t n_t c_t, .slice A_b bs.length c_b, .slice A_r rs.length c_r], false⟩) rfl) w hw) ((RdC.right hrw [_, _, _, _, _, _, _, _, _]) w hw) (hsw w (Hp.right (R' := [_, _, _, _, _, _, _, _, _]) hw)) ((rdr 7 rfl) w hw) ((rdr 8 rfl) w hw) (by first | assumption | omega | decide) (by first | assumption | omega | decide) (by first | assumption | omega | decide) (by first | assumption | omega | decide) (by first | assumption | omega | decide)))) ?_
          rintro _ _ ⟨rfl, rfl⟩
          refine ⟨.inr fun _ h => h, ?_⟩
          refine wd_yg 16 rfl (by kernel_rfl) rfl rfl rfl (y_ne rfl rfl) ?_
          refine wd_y 17 rfl (by kernel_rfl) rfl (y_pickF rfl rfl) ?_
          refine wd_nil (by kernel_rfl) ?_
          exact ⟨(Sub.cons rfl (Sub.cons rfl (Sub.cons rfl (Sub.cons rfl (Sub.cons rfl (Sub.cons rfl (Sub.cons rfl (Sub.cons rfl (Sub.cons rfl (Sub.to rfl (mb (by first | omega | exact ⟨fun h => ⟨(by assumption), h⟩, fun h => h.2⟩ | exact .inl (by assumption) | exact ⟨.inr, fun h => h.resolve_left (by assumption)⟩ | exact ⟨fun h => h.resolve_left (by assumption), .inr⟩ | simp [*])) Sub.nil)))))))))), fun _ h => h⟩
      refine w_if rfl (fun hc4 => ?_) (fun hc4 => ?_)
      ·
        refine w_reg ?_
        refine wr_y rfl (y_move rfl) ?_
        refine wr_y rfl (y_addI rfl rfl (by omega)) ?_
        refine wr_y rfl (y_assign rfl) ?_
        refine wr_nil ?_
        refine w_regd mixed ?_
        refine wd_y 0 rfl (by kernel_rfl) rfl (y_move rfl) ?_
        refine wd_y 1 rfl (by kernel_rfl) rfl (y_ldIn (rdR 4 (r := ⟨65, 1, (some ⟨g_1, 0, none⟩), 1, 1, [.pointer (some ⟨g_s, 0, none⟩)], false⟩) rfl) Tryz.underlying65 rfl rfl rfl) ?_
        refine wd_y 2 rfl (by kernel_rfl) rfl (y_nilCheck rfl) ?_
        refine wd_y 3 rfl (by kernel_rfl) rfl (y_fieldAt (off := 2) (m := 2) Tryz.underlying67 rfl sz24 rfl rfl rfl) ?_
        refine wd_y 4 rfl (by kernel_rfl) rfl (y_ldIn (rdR 5 (r := ⟨67, 4, (some ⟨g_s, 0, none⟩), 1, 1, [.slice A_w ws.length c_w, .slice A_t n_t c_t, .slice A_b bs.length c_b, .slice A_r rs.length c_r], false⟩) rfl) Tryz.underlying24 rfl rfl rfl) ?_
        refine wd_y 5 rfl (by kernel_rfl) rfl (y_indexIn (q := 0) (rdR 1 (r := ⟨45, 2, (some ⟨g_7, 0, none⟩), 1, 1, [.int .i64 ((rdp l1 i).1), .int .i64 ((rdp l1 i).2)], false⟩) rfl) Tryz.underlying45 sz3 rfl rfl (Nat.le_of_ble_eq_true rfl) (by decide) (by decide) rfl) ?_
        refine wd_y 6 rfl (by kernel_rfl) rfl (y_ldIn (rdR 1 (r := ⟨45, 2, (some ⟨g_7, 0, none⟩), 1, 1, [.int .i64 ((rdp l1 i).1), .int .i64 ((rdp l1 i).2)], false⟩) rfl) Tryz.underlying3 rfl rfl rfl) ?_
        refine wd_y 7 rfl (by kernel_rfl) rfl (y_index1 Tryz.underlying24 sz3 rfl rfl (rdr 7 rfl) (by omega) (by omega)) ?_
        refine wd_y 8 rfl (by kernel_rfl) rfl (y_ldI Tryz.underlying3 rfl rfl (rdr 7 rfl) (by omega) (by omega)) ?_
        refine wd_y 9 rfl (by kernel_rfl) rfl (y_indexIn (q := 1) (rdR 1 (r := ⟨45, 2, (some ⟨g_7, 0, none⟩), 1, 1, [.int .i64 ((rdp l1 i).1), .int .i64 ((rdp l1 i).2)], false⟩) rfl) Tryz.underlying45 sz3 rfl rfl (Nat.le_of_ble_eq_true rfl) (by decide) (by decide) rfl) ?_
        refine wd_y 10 rfl (by kernel_rfl) rfl (y_ldIn (rdR 1 (r := ⟨45, 2, (some ⟨g_7, 0, none⟩), 1, 1, [.int .i64 ((rdp l1 i).1), .int .i64 ((rdp l1 i).2)], false⟩) rfl) Tryz.underlying3 rfl rfl rfl) ?_
        refine wd_y 11 rfl (by kernel_rfl) rfl (y_addI rfl rfl (by omega)) ?_
        refine wd_y 12 rfl (by kernel_rfl) rfl (y_move rfl) ?_
        refine wd_y 13 rfl (by kernel_rfl) rfl (y_index1 Tryz.underlying24 sz3 rfl rfl (rdr 2 rfl) (by omega) (by omega)) ?_
        refine wd_n 14 rfl (by kernel_rfl) (a_storeI 2 rfl sz3 rfl rfl (by omega) (by omega)) ?_
        rintro _ _ rfl
        refine ⟨.inl (by kernel_rfl), ?_⟩
        refine wd_rows (R1 := (⟨45, 2, (some ⟨g_9, 0, none⟩), 1, 1, [.int .i64 ((rdp l1 (i - 1)).1), .int .i64 ((rdp l1 (i - 1)).2)], false⟩ :: ⟨45, 2, (some ⟨g_7, 0, none⟩), 1, 1, [.int .i64 ((rdp l1 i).1), .int .i64 ((rdp l1 i).2)], false⟩ :: ⟨3, 1, (some ⟨g_5, 0, none⟩), rs.length, rs.length, ints .i64 (upd rk ((rd bs ((rdp l1 i).1)) + ((rdp l1 i).2)) (n + 1)), false⟩ :: ⟨3, 1, (some ⟨g_3, 0, none⟩), 1, 1, [.int .i64 h], false⟩ :: ⟨65, 1, (some ⟨g_1, 0, none⟩), 1, 1, [.pointer (some ⟨g_s, 0, none⟩)], false⟩ :: ⟨67, 4, (some ⟨g_s, 0, none⟩), 1, 1, [.slice A_w ws.length c_w, .slice A_t n_t c_t, .slice A_b bs.length c_b, .slice A_r rs.length c_r], false⟩ :: ⟨45, 2, A_o, ts.length, c_o, prs l1, false⟩ :: ⟨3, 1, A_b, bs.length, c_b, ints .i64 bs, false⟩ :: ⟨3, 1, A_r, rs.length, c_r, ints .i64 rs, false⟩ :: R)) rfl ?_
        refine wd_nil (by kernel_rfl) ?_
        refine w_reg ?_
        refine wr_y rfl (y_addI rfl rfl (by omega)) ?_
        refine wr_y rfl (y_move rfl) ?_
        refine wr_nil ?_
        exact ⟨i + 1, n + 1, upd rk ((rd bs ((rdp l1 i).1)) + ((rdp l1 i).2)) (n + 1), ⟨(by omega), (by omega), (by omega), (by rw [show i + 1 - 1 = i by omega, clsF_step (by omega), if_pos (by assumption), ← hn]), (by rw [upd, List.length_set]; exact hkl), (ranks_step hnd1 hij hi0 (by omega) hps (by unfold posT; omega) hrk (by have e : (i + 1 - 1) = i := (by omega); have hc := (by rw [show i + 1 - 1 = i by omega, clsF_step (by omega), if_pos (by assumption), ← hn] : _ = clsF ws bs rs h l1 (i + 1 - 1).toNat); rw [e] at hc; exact hc))⟩, (by omega), (Sub.cons rfl (Sub.cons rfl (Sub.cons rfl (Sub.cons rfl (Sub.cons rfl (Sub.cons rfl (Sub.cons rfl (Sub.cons rfl Sub.nil)))))))), fun _ h => h.selR (F := [_, _, _, _, _, _, _, _, _]) (F' := [_, _, _, _, _, _, _]) [2, 3, 4, 5, 6, 7, 8] (by decide) rfl⟩
      ·
        refine w_skip ?_
        refine w_regd mixed ?_
        refine wd_y 0 rfl (by kernel_rfl) rfl (y_move rfl) ?_
        refine wd_y 1 rfl (by kernel_rfl) rfl (y_ldIn (rdR 4 (r := ⟨65, 1, (some ⟨g_1, 0, none⟩), 1, 1, [.pointer (some ⟨g_s, 0, none⟩)], false⟩) rfl) Tryz.underlying65 rfl rfl rfl) ?_
        refine wd_y 2 rfl (by kernel_rfl) rfl (y_nilCheck rfl) ?_
        refine wd_y 3 rfl (by kernel_rfl) rfl (y_fieldAt (off := 2) (m := 2) Tryz.underlying67 rfl sz24 rfl rfl rfl) ?_
        refine wd_y 4 rfl (by kernel_rfl) rfl (y_ldIn (rdR 5 (r := ⟨67, 4, (some ⟨g_s, 0, none⟩), 1, 1, [.slice A_w ws.length c_w, .slice A_t n_t c_t, .slice A_b bs.length c_b, .slice A_r rs.length c_r], false⟩) rfl) Tryz.underlying24 rfl rfl rfl) ?_
        refine wd_y 5 rfl (by kernel_rfl) rfl (y_indexIn (q := 0) (rdR 1 (r := ⟨45, 2, (some ⟨g_7, 0, none⟩), 1, 1, [.int .i64 ((rdp l1 i).1), .int .i64 ((rdp l1 i).2)], false⟩) rfl) Tryz.underlying45 sz3 rfl rfl (Nat.le_of_ble_eq_true rfl) (by decide) (by decide) rfl) ?_
        refine wd_y 6 rfl (by kernel_rfl) rfl (y_ldIn (rdR 1 (r := ⟨45, 2, (some ⟨g_7, 0, none⟩), 1, 1, [.int .i64 ((rdp l1 i).1), .int .i64 ((rdp l1 i).2)], false⟩) rfl) Tryz.underlying3 rfl rfl rfl) ?_
        refine wd_y 7 rfl (by kernel_rfl) rfl (y_index1 Tryz.underlying24 sz3 rfl rfl (rdr 7 rfl) (by omega) (by omega)) ?_
        refine wd_y 8 rfl (by kernel_rfl) rfl (y_ldI Tryz.underlying3 rfl rfl (rdr 7 rfl) (by omega) (by omega)) ?_
        refine wd_y 9 rfl (by kernel_rfl) rfl (y_indexIn (q := 1) (rdR 1 (r := ⟨45, 2, (some ⟨g_7, 0, none⟩), 1, 1, [.int .i64 ((rdp l1 i).1), .int .i64 ((rdp l1 i).2)], false⟩) rfl) Tryz.underlying45 sz3 rfl rfl (Nat.le_of_ble_eq_true rfl) (by decide) (by decide) rfl) ?_
        refine wd_y 10 rfl (by kernel_rfl) rfl (y_ldIn (rdR 1 (r := ⟨45, 2, (some ⟨g_7, 0, none⟩), 1, 1, [.int .i64 ((rdp l1 i).1), .int .i64 ((rdp l1 i).2)], false⟩) rfl) Tryz.underlying3 rfl rfl rfl) ?_
        refine wd_y 11 rfl (by kernel_rfl) rfl (y_addI rfl rfl (by omega)) ?_
        refine wd_y 12 rfl (by kernel_rfl) rfl (y_move rfl) ?_
        refine wd_y 13 rfl (by kernel_rfl) rfl (y_index1 Tryz.underlying24 sz3 rfl rfl (rdr 2 rfl) (by omega) (by omega)) ?_
        refine wd_n 14 rfl (by kernel_rfl) (a_storeI 2 rfl sz3 rfl rfl (by omega) (by omega)) ?_
        rintro _ _ rfl
        refine ⟨.inl (by kernel_rfl), ?_⟩
        refine wd_rows (R1 := (⟨45, 2, (some ⟨g_9, 0, none⟩), 1, 1, [.int .i64 ((rdp l1 (i - 1)).1), .int .i64 ((rdp l1 (i - 1)).2)], false⟩ :: ⟨45, 2, (some ⟨g_7, 0, none⟩), 1, 1, [.int .i64 ((rdp l1 i).1), .int .i64 ((rdp l1 i).2)], false⟩ :: ⟨3, 1, (some ⟨g_5, 0, none⟩), rs.length, rs.length, ints .i64 (upd rk ((rd bs ((rdp l1 i).1)) + ((rdp l1 i).2)) n), false⟩ :: ⟨3, 1, (some ⟨g_3, 0, none⟩), 1, 1, [.int .i64 h], false⟩ :: ⟨65, 1, (some ⟨g_1, 0, none⟩), 1, 1, [.pointer (some ⟨g_s, 0, none⟩)], false⟩ :: ⟨67, 4, (some ⟨g_s, 0, none⟩), 1, 1, [.slice A_w ws.length c_w, .slice A_t n_t c_t, .slice A_b bs.length c_b, .slice A_r rs.length c_r], false⟩ :: ⟨45, 2, A_o, ts.length, c_o, prs l1, false⟩ :: ⟨3, 1, A_b, bs.length, c_b, ints .i64 bs, false⟩ :: ⟨3, 1, A_r, rs.length, c_r, ints .i64 rs, false⟩ :: R)) rfl ?_
        refine wd_nil (by kernel_rfl) ?_
        refine w_reg ?_
        refine wr_y rfl (y_addI rfl rfl (by omega)) ?_
        refine wr_y rfl (y_move rfl) ?_
        refine wr_nil ?_
        exact ⟨i + 1, n, upd rk ((rd bs ((rdp l1 i).1)) + ((rdp l1 i).2)) n, ⟨(by omega), (by omega), (by omega), (by rw [show i + 1 - 1 = i by omega, clsF_step (by omega), if_neg (by assumption), ← hn, Int.add_zero]), (by rw [upd, List.length_set]; exact hkl), (ranks_step hnd1 hij hi0 (by omega) hps (by unfold posT; omega) hrk (by have e : (i + 1 - 1) = i := (by omega); have hc := (by rw [show i + 1 - 1 = i by omega, clsF_step (by omega), if_neg (by assumption), ← hn, Int.add_zero] : _ = clsF ws bs rs h l1 (i + 1 - 1).toNat); rw [e] at hc; exact hc))⟩, (by omega), (Sub.cons rfl (Sub.cons rfl (Sub.cons rfl (Sub.cons rfl (Sub.cons rfl (Sub.cons rfl (Sub.cons rfl (Sub.cons rfl Sub.nil)))))))), fun _ h => h.selR (F := [_, _, _, _, _, _, _, _, _]) (F' := [_, _, _, _, _, _, _]) [2, 3, 4, 5, 6, 7, 8] (by decide) rfl⟩
    ·
      refine w_skip ?_
      refine w_regd mixed ?_
      refine wd_y 0 rfl (by kernel_rfl) rfl (y_move rfl) ?_
      refine wd_y 1 rfl (by kernel_rfl) rfl (y_ldIn (rdR 3 (r := ⟨65, 1, (some ⟨g_1, 0, none⟩), 1, 1, [.pointer (some ⟨g_s, 0, none⟩)], false⟩) rfl) Tryz.underlying65 rfl rfl rfl) ?_
      refine wd_y 2 rfl (by kernel_rfl) rfl (y_nilCheck rfl) ?_
      refine wd_y 3 rfl (by kernel_rfl) rfl (y_fieldAt (off := 2) (m := 2) Tryz.underlying67 rfl sz24 rfl rfl rfl) ?_
      refine wd_y 4 rfl (by kernel_rfl) rfl (y_ldIn (rdR 4 (r := ⟨67, 4, (some ⟨g_s, 0, none⟩), 1, 1, [.slice A_w ws.length c_w, .slice A_t n_t c_t, .slice A_b bs.length c_b, .slice A_r rs.length c_r], false⟩) rfl) Tryz.underlying24 rfl rfl rfl) ?_
      refine wd_y 5 rfl (by kernel_rfl) rfl (y_indexIn (q := 0) (rdR 0 (r := ⟨45, 2, (some ⟨g_7, 0, none⟩), 1, 1, [.int .i64 ((rdp l1 i).1), .int .i64 ((rdp l1 i).2)], false⟩) rfl) Tryz.underlying45 sz3 rfl rfl (Nat.le_of_ble_eq_true rfl) (by decide) (by decide) rfl) ?_
      refine wd_y 6 rfl (by kernel_rfl) rfl (y_ldIn (rdR 0 (r := ⟨45, 2, (some ⟨g_7, 0, none⟩), 1, 1, [.int .i64 ((rdp l1 i).1), .int .i64 ((rdp l1 i).2)], false⟩) rfl) Tryz.underlying3 rfl rfl rfl) ?_
      refine wd_y 7 rfl (by kernel_rfl) rfl (y_index1 Tryz.underlying24 sz3 rfl rfl (rdr 6 rfl) (by omega) (by omega)) ?_
      refine wd_y 8 rfl (by kernel_rfl) rfl (y_ldI Tryz.underlying3 rfl rfl (rdr 6 rfl) (by omega) (by omega)) ?_
      refine wd_y 9 rfl (by kernel_rfl) rfl (y_indexIn (q := 1) (rdR 0 (r := ⟨45, 2, (some ⟨g_7, 0, none⟩), 1, 1, [.int .i64 ((rdp l1 i).1), .int .i64 ((rdp l1 i).2)], false⟩) rfl) Tryz.underlying45 sz3 rfl rfl (Nat.le_of_ble_eq_true rfl) (by decide) (by decide) rfl) ?_
      refine wd_y 10 rfl (by kernel_rfl) rfl (y_ldIn (rdR 0 (r := ⟨45, 2, (some ⟨g_7, 0, none⟩), 1, 1, [.int .i64 ((rdp l1 i).1), .int .i64 ((rdp l1 i).2)], false⟩) rfl) Tryz.underlying3 rfl rfl rfl) ?_
      refine wd_y 11 rfl (by kernel_rfl) rfl (y_addI rfl rfl (by omega)) ?_
      refine wd_y 12 rfl (by kernel_rfl) rfl (y_move rfl) ?_
      refine wd_y 13 rfl (by kernel_rfl) rfl (y_index1 Tryz.underlying24 sz3 rfl rfl (rdr 1 rfl) (by omega) (by omega)) ?_
      refine wd_n 14 rfl (by kernel_rfl) (a_storeI 1 rfl sz3 rfl rfl (by omega) (by omega)) ?_
      rintro _ _ rfl
      refine ⟨.inl (by kernel_rfl), ?_⟩
      refine wd_rows (R1 := (⟨45, 2, (some ⟨g_7, 0, none⟩), 1, 1, [.int .i64 ((rdp l1 i).1), .int .i64 ((rdp l1 i).2)], false⟩ :: ⟨3, 1, (some ⟨g_5, 0, none⟩), rs.length, rs.length, ints .i64 (upd rk ((rd bs ((rdp l1 i).1)) + ((rdp l1 i).2)) n), false⟩ :: ⟨3, 1, (some ⟨g_3, 0, none⟩), 1, 1, [.int .i64 h], false⟩ :: ⟨65, 1, (some ⟨g_1, 0, none⟩), 1, 1, [.pointer (some ⟨g_s, 0, none⟩)], false⟩ :: ⟨67, 4, (some ⟨g_s, 0, none⟩), 1, 1, [.slice A_w ws.length c_w, .slice A_t n_t c_t, .slice A_b bs.length c_b, .slice A_r rs.length c_r], false⟩ :: ⟨45, 2, A_o, ts.length, c_o, prs l1, false⟩ :: ⟨3, 1, A_b, bs.length, c_b, ints .i64 bs, false⟩ :: ⟨3, 1, A_r, rs.length, c_r, ints .i64 rs, false⟩ :: R)) rfl ?_
      refine wd_nil (by kernel_rfl) ?_
      refine w_reg ?_
      refine wr_y rfl (y_addI rfl rfl (by omega)) ?_
      refine wr_y rfl (y_move rfl) ?_
      refine wr_nil ?_
      exact ⟨i + 1, n, upd rk ((rd bs ((rdp l1 i).1)) + ((rdp l1 i).2)) n, ⟨(by omega), (by omega), (by omega), (by have h0 : i = 0 := (by omega); subst h0; exact hn), (by rw [upd, List.length_set]; exact hkl), (ranks_step hnd1 hij hi0 (by omega) hps (by unfold posT; omega) hrk (by have e : (i + 1 - 1) = i := (by omega); have hc := (by have h0 : i = 0 := (by omega); subst h0; exact hn : _ = clsF ws bs rs h l1 (i + 1 - 1).toNat); rw [e] at hc; exact hc))⟩, (by omega), (Sub.cons rfl (Sub.cons rfl (Sub.cons rfl (Sub.cons rfl (Sub.cons rfl (Sub.cons rfl (Sub.cons rfl (Sub.cons rfl Sub.nil)))))))), fun _ h => h.selR (F := [_, _, _, _, _, _, _, _]) (F' := [_, _, _, _, _, _, _]) [1, 2, 3, 4, 5, 6, 7] (by decide) rfl⟩
  ·
    refine w_exit ?_
    refine w_seq ?_
    refine w_reg ?_
    refine wr_y rfl (y_ldIn (rdR 2 (r := ⟨65, 1, (some ⟨g_1, 0, none⟩), 1, 1, [.pointer (some ⟨g_s, 0, none⟩)], false⟩) rfl) Tryz.underlying65 rfl rfl rfl) ?_
    refine wr_y rfl (y_move rfl) ?_
    refine wr_y rfl (y_nilCheck rfl) ?_
    refine wr_y rfl (y_fieldAt (off := 3) (m := 3) Tryz.underlying67 rfl sz24 rfl rfl rfl) ?_
    refine wr_n (a_storeAt 3 rfl rfl rfl sz24 rfl rfl rfl rfl (Nat.le_of_ble_eq_true rfl)) ?_
    rintro _ _ rfl
    refine wr_rows (R1 := (⟨3, 1, (some ⟨g_5, 0, none⟩), rs.length, rs.length, ints .i64 rk, false⟩ :: ⟨3, 1, (some ⟨g_3, 0, none⟩), 1, 1, [.int .i64 h], false⟩ :: ⟨65, 1, (some ⟨g_1, 0, none⟩), 1, 1, [.pointer (some ⟨g_s, 0, none⟩)], false⟩ :: ⟨67, 4, (some ⟨g_s, 0, none⟩), 1, 1, [.slice A_w ws.length c_w, .slice A_t n_t c_t, .slice A_b bs.length c_b, .slice (some ⟨g_5, 0, none⟩) rs.length rs.length], false⟩ :: ⟨45, 2, A_o, ts.length, c_o, prs l1, false⟩ :: ⟨3, 1, A_b, bs.length, c_b, ints .i64 bs, false⟩ :: ⟨3, 1, A_r, rs.length, c_r, ints .i64 rs, false⟩ :: R)) rfl ?_
    refine wr_nil ?_
    refine w_seq ?_
    refine w_reg ?_
    refine wr_y rfl (y_move rfl) ?_
    refine wr_y rfl (y_assign rfl) ?_
    refine wr_nil ?_
    refine w_retR (R1 := (⟨67, 4, (some ⟨g_s, 0, none⟩), 1, 1, [.slice A_w ws.length c_w, .slice A_t n_t c_t, .slice A_b bs.length c_b, .slice (some ⟨g_5, 0, none⟩) rs.length rs.length], false⟩ :: ⟨45, 2, A_o, ts.length, c_o, prs l1, false⟩ :: ⟨3, 1, A_b, bs.length, c_b, ints .i64 bs, false⟩ :: ⟨3, 1, (some ⟨g_5, 0, none⟩), rs.length, rs.length, ints .i64 rk, false⟩ :: R)) (fun _ h => h.selR (F := [_, _, _, _, _, _, _]) (F' := [_, _, _, _]) [3, 4, 5, 0] (by decide) rfl) ?_
    refine ⟨_, rfl, ?_⟩
    obtain rfl : i = l1.length := by omega
    refine ⟨l1, rk, _, _, ?_, hp1, hs1, hkl, fun j hj => hrk j (by omega), rfl⟩
    rw [hn, show ((l1.length : Int) - 1).toNat = l1.length - 1 by omega]

end Go.Proofs.YtdfcnalkdlifiaaGreat

/-! ## E22 -/
namespace Go.Eng
open Go Go.RowKit
section
variable {P : Program} {n : Nd} {B : Nat} {w0 : World} {L : Env} {R : List Row} {ty : TypeId}
theorem cut_addr {g lo c : Nat} (h : lo < c) : cutA (some ⟨g, 0, none⟩) lo c 1 = some ⟨g, lo, none⟩ := by
  unfold cutA
  rw [if_neg (by omega), Nat.mul_one, Option.map_some]
  unfold Addr.add
  split <;> simp_all
/-- What is one number again and again, so far. -/
def repl (v : Int) (p N : Nat) : List Int := List.replicate p v ++ List.replicate (N - p) 0
end
end Go.Eng

/-! ## E28 -/
namespace Go.Eng
open Go Go.RowKit Go.Pure
section
variable {P : Program} {n : Nd} {B : Nat} {w0 : World} {L : Env} {R : List Row} {ty : TypeId}
/-- bytealg.MakeNoZero: a row of nothing yet, with room. -/
theorem a_noZero {f : FuncId} {fn : Func} {x : Operand} {ts : Array TypeId} {m : Nat} {ps : Array TypeId} {t e : TypeId} (hf : P.funcs[f]? = some fn) (hname : (fn.name == "runtime.NumGoroutine") = false) (hb : fn.body.isNone = true) (hn : Extern.findNext fn = none) (he : Extern.find fn = some (Extern.BytealgMakeNoZero.makeNoZero ps #[t]))
    (ht : P.underlying t = some (.slice e)) (hx : ev L x = some (.int .i64 (m : Int))) (hm : m ≤ 1000000) :
    Ac P n B w0 (.call { callee := .value (.func f), args := [x].toArray, argTypes := ts }) ty L R (fun v R' => ∃ g C, m ≤ C ∧ v = .slice (some ⟨g, 0, none⟩) m C ∧ R' = ⟨e, 1, some ⟨g, 0, none⟩, 0, C, ints .u8 [], false⟩ :: R) :=
  a_entry (vs := [.int .i64 (m : Int)]) (by simp [evs, hx]) fun w hw => by
    obtain ⟨cs, hr, hge, hle⟩ := Lib.run_makeNoZero (P := P) w ps t e ht m (by omega)
    have hp2 := ((hw.drawn (w.drawn + 1 + 1) (by omega)).newC cs e m hge (hle (by unfold maxLen; omega))).cut (k := 0) (Nat.zero_le _) (by simp)
    refine ⟨_, _, _, ?_, hp2, w.heap.size, cs.size, hge, rfl, by simp [ints]⟩
    rw [run_callFunc_extern hf hname hb hn he]
    rw [show [Value.int .i64 (m : Int)].toArray = #[.int .i64 m] from rfl, hr]
    rfl
/-- copy behind a row's end, into its room. -/
theorem a_copyEnd {x y : Operand} {t t2 e : TypeId} {pp : Option Addr} {g p dl dc c m2 c2 : Nat} {A2 : Option Addr} {k : IntKind} {D src : List Int} (i : Nat) (hi : R[i]? = some ⟨e, 1, some ⟨g, 0, none⟩, p, c, ints k D, false⟩) (ht : P.underlying t = some (.slice e)) (hst : (P.info? e).map (·.size) = some 1)
    (hx : ev L x = some (.slice pp dl dc)) (hy : ev L y = some (.slice A2 m2 c2)) (hpp : pp = some ⟨g, p, none⟩) (hdl : p + dl ≤ c) (hrd : RdC B w0 R A2 m2 c2 1 (ints k src)) :
    Ac P n B w0 (.call { callee := .builtin .copy, args := #[x, y], argTypes := #[t, t2] }) ty L R (fun v R' => v = .int .i64 ((min m2 dl : Nat) : Int) ∧ R' = R.set i ⟨e, 1, some ⟨g, 0, none⟩, p + min m2 dl, c, ints k (D ++ src.take (min m2 dl)), false⟩) := by
  intro a w o K Q ho hty hs hw hk
  have hown := Row.lies_w (hw.own _ (List.mem_of_getElem? hi)) rfl
  have hr2 := hrd w hw
  have hm2 : m2 = src.length := hr2.lenI
  have hl : p = D.length := by have := hown.1; rw [ints_length] at this; simp only at this; omega
  rcases hown.2 with ⟨hv, _⟩ | ⟨g', cap, cur, hv, hb, hg, hnc, hcm, hcs, htk⟩
  · simp at hv
  simp only [Value.slice.injEq, Option.some.injEq, Addr.mk.injEq, and_true, true_and] at hv
  obtain ⟨rfl, rfl⟩ := hv
  simp only at htk hcs hnc hg hb
  rw [Nat.mul_one] at htk hcs
  subst hpp
  obtain ⟨q, hq⟩ : ∃ q, min m2 dl = q := ⟨_, rfl⟩
  rw [hq] at hk
  have hq' : Nat.min m2 dl = q := hq
  have hcl : (ints k (src.take q)).length = q := by rw [ints_length, List.length_take]; omega
  rcases Nat.eq_zero_or_pos m2 with hz | hpos
  · have hq0 : q = 0 := by omega
    have hrun := run_copy_none (P := P) w t t2 o.type e (some ⟨g, p, none⟩) A2 dl dc m2 c2 ht hst (by rw [hz]; exact Nat.zero_min _)
    unfold Oper.wp execOp
    simp only [ho, resolve, invoke, builtin, Sem.run_bind, Sem.run_pure, Result.andThen_ok, List.map_toArray, List.map_cons, List.map_nil, hs.ev hx, hs.ev hy, hrun, Oper.upon]
    refine hk (.int .i64 ((0 : Nat) : Int)) w R hw ⟨by rw [hq0], ?_⟩
    rw [hq0]
    simp only [List.take_zero, List.append_nil, Nat.add_zero]
    exact (by
      apply List.ext_getElem?
      intro j
      rw [List.getElem?_set]
      split
      · rename_i e; subst e; rw [if_pos (List.getElem?_eq_some_iff.1 hi).1, hi]
      · rfl)
  · obtain ⟨a2, rfl⟩ : ∃ a2, A2 = some a2 := by
      obtain ⟨a2, h, _⟩ := hr2.at_ 0 _ (List.getElem?_eq_getElem (by rw [ints_length]; omega))
      exact ⟨a2, h⟩
    have hrun := run_copy_row P w t t2 o.type e g p dl dc a2 m2 c2 cur e (ints k (src.take q)) ht hst hg (by rw [hcl]; exact hq.symm) (fun j v hv => by
      obtain ⟨b, h1, h2⟩ := hr2.at_ j v (by
        rw [ints, List.map_take] at hv
        rw [List.getElem?_take] at hv
        split at hv
        · exact hv
        · cases hv)
      obtain rfl := Option.some.inj h1
      exact h2) (by rw [hcl, hcs]; omega) (ints_one k _)
    rw [hcl] at hrun
    unfold Oper.wp execOp
    simp only [ho, resolve, invoke, builtin, Sem.run_bind, Sem.run_pure, Result.andThen_ok, List.map_toArray, List.map_cons, List.map_nil, hs.ev hx, hs.ev hy, hrun, Oper.upon]
    refine hk (.int .i64 (q : Int)) _ _ ?_ ⟨rfl, rfl⟩
    refine hw.upd hi (row := some g) ⟨rfl, rfl, rfl, by simp, fun j _ hj => setRow_other w g j _ (fun e => hj (by simp [e]))⟩ (Nat.le_refl _) (fun j hj => by cases hj; exact ⟨_, rfl, rfl⟩) ?_ (fun a' ha' => .inl ⟨a', ha', rfl⟩)
    unfold Row.lies
    simp only
    refine ⟨?_, .inr ⟨g, c, _, rfl, hb, setRow_heap w g cur _ e _ hg, by omega, hcm, ?_, ?_⟩⟩
    · simp only [ints_length, List.length_append, List.length_take]; omega
    · simp only [List.size_toArray, List.length_append, List.length_take, List.length_drop, Array.length_toList, ints_length]; omega
    · simp only [Nat.mul_one]
      rw [ints_append, ← htk]
      have h1 : (cur.toList.take p ++ ints k (src.take q)).length = p + q := by
        rw [List.length_append, hcl, List.length_take, Array.length_toList]; omega
      rw [List.take_append, h1, List.take_of_length_le (by omega), Nat.sub_self, List.take_zero, List.append_nil]
theorem y_sliceH {x y : Operand} {t e : TypeId} {A : Option Addr} {m c sz : Nat} {k1 : IntKind} {vh : Int} (ht : P.underlying t = some (.slice e)) (hi : (P.info? e).map (·.size) = some sz) (hx : ev L x = some (.slice A m c)) (hy : ev L y = some (.int k1 vh)) (h0 : 0 ≤ vh) (hc : vh ≤ c) :
    Yl P n B w0 (.slice t x none (some y) none) ty L R (.slice A vh.toNat c) := by
  intro a w o ho _ hs hp
  obtain ⟨i0, hi0, hsz0⟩ := Option.map_eq_some_iff.1 hi
  have hel : P.elem t = e := by simp [Program.elem, ht]
  have ht' : P.underlying t = some (.slice (P.elem t)) := by rw [hel]; exact ht
  simp only [execOp, ho, Option.map_some, Option.map_none, hs.ev hx, hs.ev hy, Sem.run_bind, run_sliceAt_slice w t _ _ _ _ ht', run_slice_h w t A m c ht' k1 vh h0 hc, hel]
  have : (if c = 0 then A else Option.map (fun x => x.add 0) A) = A := by
    split
    · rfl
    · exact pat_zero A
  simp [sizeOf, typeInfo, hi0, hsz0, sliced, this]
theorem y_sliceHM {x y z : Operand} {t e : TypeId} {A : Option Addr} {m c h sz : Nat} {k1 k2 : IntKind} {vh vm : Int} (ht : P.underlying t = some (.slice e)) (hi : (P.info? e).map (·.size) = some sz) (hx : ev L x = some (.slice A m c)) (hy : ev L y = some (.int k1 vh)) (hz : ev L z = some (.int k2 vm)) (e1 : vh = (h : Int)) (e2 : vm = (h : Int)) (hc : h ≤ c) :
    Yl P n B w0 (.slice t x none (some y) (some z)) ty L R (.slice A h h) := by
  subst e1; subst e2
  intro a w o ho _ hs hp
  obtain ⟨i0, hi0, hsz0⟩ := Option.map_eq_some_iff.1 hi
  have hel : P.elem t = e := by simp [Program.elem, ht]
  have ht' : P.underlying t = some (.slice (P.elem t)) := by rw [hel]; exact ht
  simp only [execOp, ho, Option.map_some, Option.map_none, hs.ev hx, hs.ev hy, hs.ev hz, Sem.run_bind, run_sliceAt_slice w t _ _ _ _ ht', run_slice_hm w t A m c ht' k1 k2 (h : Int) (h : Int) (by omega) (by omega) (by omega), hel]
  have : (if h = 0 then A else Option.map (fun x => x.add 0) A) = A := by
    split
    · rfl
    · exact pat_zero A
  simp [sizeOf, typeInfo, hi0, hsz0, sliced, this]
/-- A row that is read only from now on: its room is asx we say. -/
theorem Row.lies_ro {w : World} {e sz m c c' : Nat} {A : Option Addr} {xs : List Value} (h : Row.lies B w ⟨e, sz, A, m, c, xs, false⟩) (hA : A ≠ none) (hc : m ≤ c') : Row.lies B w ⟨e, sz, A, m, c', xs, true⟩ := by
  have h1 := Row.lies_w h rfl
  unfold Row.lies
  simp only
  obtain ⟨hl, h2⟩ := h1
  simp only at hl h2
  rcases h2 with ⟨hv, _⟩ | ⟨g, cap, cur, hv, hb, hg, hnc, hcm, hcs, ht⟩
  · simp only [Value.slice.injEq] at hv
    exact absurd hv.1 hA
  · simp only [Value.slice.injEq] at hv
    obtain ⟨rfl, _, rfl⟩ := hv
    exact ⟨g, cur, _, rfl, hb, hg, by omega, hc, hl, ht⟩
theorem Hp.toRo {w : World} {e sz m c c' : Nat} {A : Option Addr} {xs : List Value} (h : Hp B w0 w (⟨e, sz, A, m, c, xs, false⟩ :: R)) (hA : A ≠ none) (hc : m ≤ c') : Hp B w0 w (⟨e, sz, A, m, c', xs, true⟩ :: R) :=
  ⟨h.below, h.base, fun r hr => by
    rcases List.mem_cons.1 hr with rfl | hr
    · exact Row.lies_ro (h.own _ (.head _)) hA hc
    · exact h.own r (.tail _ hr), by
    obtain ⟨h1, h2⟩ := List.pairwise_cons.1 h.apart
    exact List.pairwise_cons.2 ⟨fun r hr => h1 r hr, h2⟩, h.late⟩
theorem RdC.capI {A : Option Addr} {m c c' : Nat} {k : IntKind} {l : List Int} (h : RdC B w0 R A m c 1 (ints k l)) (hc : m ≤ c') : RdC B w0 R A m c' 1 (ints k l) := fun w hw =>
  let q := h w hw
  ⟨q.len, q.max, hc, q.at_⟩
structure RepI (u D : List Int) (N : Nat) (p : Int) : Prop where
  p0 : 0 ≤ p
  pN : p ≤ N
  up : (u.length : Int) ≤ p
  len : (D.length : Int) = p
  at_ : ∀ j : Nat, j < p → lt D j = om u j
  dvd : p = N ∨ (u.length : Int) ∣ p
theorem lt_app {D E : List Int} {j : Nat} : lt (D ++ E) j = if j < D.length then lt D j else lt E (j - D.length) := by
  unfold lt
  rw [List.getD_eq_getElem?_getD]
  split
  · rw [List.getElem?_append_left (by omega), List.getD_eq_getElem?_getD]
  · rw [List.getElem?_append_right (by omega), List.getD_eq_getElem?_getD]
theorem lt_take {D : List Int} {j q : Nat} (h : j < q) : lt (D.take q) j = lt D j := by
  unfold lt
  rw [List.getD_eq_getElem?_getD, List.getElem?_take_of_lt h, List.getD_eq_getElem?_getD]
theorem RepI.init {u : List Int} {N : Nat} (hu : u.length ≤ N) : RepI u ([] ++ u.take (min u.length N)) N ((min u.length N : Nat) : Int) := by
  have e : min u.length N = u.length := by omega
  rw [e, List.nil_append, List.take_length]
  exact ⟨by omega, by omega, by omega, rfl, fun j hj => (om_lt (by omega)).symm, .inr (Int.dvd_refl _)⟩
theorem RepI.step {u D : List Int} {N : Nat} {p : Int} (h : RepI u D N p) (hu : 0 < u.length) (hp : p < N) :
    RepI u (D ++ (D.take (min p N).toNat).take (min (min p N).toNat (N - p.toNat))) N (p + ((min (min p N).toNat (N - p.toNat) : Nat) : Int)) := by
  obtain ⟨p0, pN, up, len, at_, dvd⟩ := h
  have e : min p (N : Int) = p := by omega
  rw [e]
  obtain ⟨q, hq⟩ : ∃ q, min p.toNat (N - p.toNat) = q := ⟨_, rfl⟩
  rw [hq]
  have hd : (u.length : Int) ∣ p := dvd.resolve_left (by omega)
  refine ⟨by omega, by omega, by omega, by rw [List.length_append, List.length_take, List.length_take]; omega, fun j hj => ?_, ?_⟩
  · rw [lt_app]
    split
    · exact at_ j (by omega)
    · rename_i hc
      rw [lt_take (by omega), lt_take (by omega), at_ _ (by omega)]
      obtain ⟨k, hk⟩ := hd
      have hk0 : 0 ≤ k := by
        rcases Int.lt_or_le k 0 with g | g
        · have := Int.mul_nonneg (show (0 : Int) ≤ u.length by omega) (show 0 ≤ -k by omega)
          rw [Int.mul_neg] at this
          omega
        · exact g
      have e3 : D.length = u.length * k.toNat := by
        have : (D.length : Int) = ((u.length * k.toNat : Nat) : Int) := by rw [len, hk, Int.natCast_mul, Int.toNat_of_nonneg hk0]
        exact_mod_cast this
      have := (om_per u).mul k.toNat (j - D.length)
      rw [← this, ← e3, Nat.sub_add_cancel (by omega)]
  · rcases Nat.lt_or_ge q p.toNat with g | g
    · left; omega
    · right
      have : (q : Int) = p := by omega
      rw [this]
      exact Int.dvd_add hd hd
theorem RepI.done {u D : List Int} {cn : Int} {N : Nat} {p : Int} (h : RepI u D N p) (hp : ¬ p < N) (hN : N = cn.toNat * u.length) : D = rep u cn := by
  have hl := h.len
  have hpN := h.pN
  refine list_ext_rd (by rw [rep_length]; omega) fun j h0 h1 => ?_
  have h2 := h.at_ j.toNat (by omega)
  have h3 := rep_getD u cn.toNat j.toNat (by omega)
  rw [lt_rd, h2, ← h3]
  unfold rd rep
  rw [Int.toNat_natCast]
end
end Go.Eng

/-! ## S3 -/
namespace Go.Proofs
open Go.Shelf
def Tryz.lays264_ren : Go.Shelf.Ren := ⟨fun | 264 => 73 | n => n, fun | 53 => 118 | 46 => 79 | n => n, fun | n => n⟩
def Tryz.lays212_ren : Go.Shelf.Ren := ⟨fun | 212 => 42 | 263 => 72 | 264 => 73 | n => n, fun | 46 => 79 | 51 => 115 | 146 => 116 | 53 => 118 | 148 => 119 | n => n, fun | n => n⟩
theorem Tryz.lays212 : Go.Proofs.Lays.n212 Tryz.prog Tryz.lays212_ren := {
  mixed := by kernel_rfl
  f212 := Tryz.func42.trans (congrArg some (by kernel_rfl))
  f263 := Tryz.func72.trans (congrArg some (by kernel_rfl))
  f264 := Tryz.func73.trans (congrArg some (by kernel_rfl))
  t46 := Tryz.underlying79
  a46 := Tryz.isAgg79
  z46 := Tryz.sizeOf79
  v46 := Tryz.zeroValue79
  t51 := Tryz.underlying115
  a51 := Tryz.isAgg115
  z51 := Tryz.sizeOf115
  v51 := Tryz.zeroValue115
  t53 := Tryz.underlying118
  a53 := Tryz.isAgg118
  z53 := Tryz.sizeOf118
  v53 := Tryz.zeroValue118
  t146 := Tryz.underlying116
  a146 := Tryz.isAgg116
  z146 := Tryz.sizeOf116
  v146 := Tryz.zeroValue116
  t148 := Tryz.underlying119
  a148 := Tryz.isAgg119
  z148 := Tryz.sizeOf119
  v148 := Tryz.zeroValue119 }
open Go.RowKit Go.Lib in
/-- math/bits.Mul: "Mul returns the full-width product of x and y": on a machine of 64 bits: Mul64's. (LAID: no walk: one application.) -/
theorem Tryz.bits_Mul (x y : Nat) (hx : x < 18446744073709551616) (hy : y < 18446744073709551616) (w : World) :
    Calls Tryz.prog 42 #[.int .u64 x, .int .u64 y] w fun e w' => e = .returned (.tuple #[.int .u64 ((x * y / 18446744073709551616 : Nat) : Int), .int .u64 ((x * y % 18446744073709551616 : Nat) : Int)]) ∧ w' = w := Any.bits_Mul Tryz.lays212 x y hx hy w
end Go.Proofs

/-! ## S4 -/
namespace Go.Proofs
open Go.Shelf
def Tryz.laysRing_ren : Go.Shelf.Ren := ⟨fun | 6 => 63 | 15 => 70 | 14 => 93 | 28 => 104 | 29 => 105 | 20 => 124 | 21 => 125 | 22 => 126 | 23 => 127 | 24 => 128 | 25 => 129 | 26 => 130 | 27 => 131 | 46 => 144 | 47 => 133 | 48 => 134 | 49 => 145 | 50 => 146 | 57 => 158 | n => n, fun | 22 => 70 | 24 => 73 | 25 => 109 | 3 => 3 | 39 => 79 | 0 => 0 | 53 => 115 | 55 => 118 | 4 => 4 | 46 => 134 | 45 => 133 | 50 => 138 | 5 => 5 | 9 => 9 | 66 => 157 | 70 => 161 | 76 => 168 | 77 => 169 | n => n, fun | n => n⟩
theorem Tryz.laysRing : Go.Proofs.SlLaysF0.n6 Tryz.prog Tryz.laysRing_ren := {
  mixed := by kernel_rfl
  f6 := ⟨Tryz.f63.name, by decide, Tryz.func63.trans (congrArg some (by kernel_rfl))⟩
  f14 := ⟨Tryz.f93.name, by decide, Tryz.func93.trans (congrArg some (by kernel_rfl))⟩
  f15 := Tryz.func70.trans (congrArg some (by kernel_rfl))
  f20 := ⟨Tryz.f124.name, by decide, Tryz.func124.trans (congrArg some (by kernel_rfl))⟩
  f21 := ⟨Tryz.f125.name, by decide, Tryz.func125.trans (congrArg some (by kernel_rfl))⟩
  f22 := ⟨Tryz.f126.name, by decide, Tryz.func126.trans (congrArg some (by kernel_rfl))⟩
  f23 := ⟨Tryz.f127.name, by decide, Tryz.func127.trans (congrArg some (by kernel_rfl))⟩
  f24 := ⟨Tryz.f128.name, by decide, Tryz.func128.trans (congrArg some (by kernel_rfl))⟩
  f25 := ⟨Tryz.f129.name, by decide, Tryz.func129.trans (congrArg some (by kernel_rfl))⟩
  f26 := ⟨Tryz.f130.name, by decide, Tryz.func130.trans (congrArg some (by kernel_rfl))⟩
  f27 := ⟨Tryz.f131.name, by decide, Tryz.func131.trans (congrArg some (by kernel_rfl))⟩
  f28 := Tryz.func104.trans (congrArg some (by kernel_rfl))
  f29 := Tryz.func105.trans (congrArg some (by kernel_rfl))
  f46 := ⟨Tryz.f144.name, by decide, Tryz.func144.trans (congrArg some (by kernel_rfl))⟩
  f47 := Tryz.func133.trans (congrArg some (by kernel_rfl))
  f48 := Tryz.func134.trans (congrArg some (by kernel_rfl))
  f49 := ⟨Tryz.f145.name, by decide, Tryz.func145.trans (congrArg some (by kernel_rfl))⟩
  f50 := ⟨Tryz.f146.name, by decide, Tryz.func146.trans (congrArg some (by kernel_rfl))⟩
  f57 := ⟨Tryz.f158.name, by decide, Tryz.func158.trans (congrArg some (by kernel_rfl))⟩
  t0 := Tryz.underlying0
  a0 := Tryz.isAgg0
  z0 := Tryz.sizeOf0
  v0 := Tryz.zeroValue0
  t3 := Tryz.underlying3
  a3 := Tryz.isAgg3
  z3 := Tryz.sizeOf3
  v3 := Tryz.zeroValue3
  t4 := Tryz.underlying4
  a4 := Tryz.isAgg4
  z4 := Tryz.sizeOf4
  v4 := Tryz.zeroValue4
  t5 := Tryz.underlying5
  a5 := Tryz.isAgg5
  z5 := Tryz.sizeOf5
  v5 := Tryz.zeroValue5
  t9 := Tryz.underlying9
  a9 := Tryz.isAgg9
  z9 := Tryz.sizeOf9
  v9 := Tryz.zeroValue9
  t22 := Tryz.underlying70
  a22 := Tryz.isAgg70
  z22 := Tryz.sizeOf70
  v22 := Tryz.zeroValue70
  t25 := Tryz.underlying109
  a25 := Tryz.isAgg109
  z25 := Tryz.sizeOf109
  v25 := Tryz.zeroValue109
  t39 := Tryz.underlying79
  a39 := Tryz.isAgg79
  z39 := Tryz.sizeOf79
  v39 := Tryz.zeroValue79
  t45 := Tryz.underlying133
  a45 := Tryz.isAgg133
  z45 := Tryz.sizeOf133
  v45 := Tryz.zeroValue133
  t46 := Tryz.underlying134
  a46 := Tryz.isAgg134
  z46 := Tryz.sizeOf134
  v46 := Tryz.zeroValue134
  t50 := Tryz.underlying138
  a50 := Tryz.isAgg138
  z50 := Tryz.sizeOf138
  v50 := Tryz.zeroValue138
  t53 := Tryz.underlying115
  a53 := Tryz.isAgg115
  z53 := Tryz.sizeOf115
  v53 := Tryz.zeroValue115
  t55 := Tryz.underlying118
  a55 := Tryz.isAgg118
  z55 := Tryz.sizeOf118
  v55 := Tryz.zeroValue118
  t66 := Tryz.underlying157
  a66 := Tryz.isAgg157
  z66 := Tryz.sizeOf157
  v66 := Tryz.zeroValue157
  t70 := Tryz.underlying161
  a70 := Tryz.isAgg161
  z70 := Tryz.sizeOf161
  v70 := Tryz.zeroValue161
  t76 := Tryz.underlying168
  a76 := Tryz.isAgg168
  z76 := Tryz.sizeOf168
  v76 := Tryz.zeroValue168
  t77 := Tryz.underlying169
  a77 := Tryz.isAgg169
  z77 := Tryz.sizeOf169
  v77 := Tryz.zeroValue169 }
def Tryz.laysRow_ren : Go.Shelf.Ren := ⟨fun | 6 => 40 | 15 => 70 | 14 => 69 | 28 => 104 | 29 => 105 | 20 => 96 | 21 => 97 | 22 => 98 | 23 => 99 | 24 => 100 | 25 => 101 | 26 => 102 | 27 => 103 | 46 => 132 | 47 => 133 | 48 => 134 | 49 => 135 | 50 => 136 | 57 => 147 | n => n, fun | 22 => 22 | 24 => 23 | 25 => 78 | 3 => 3 | 39 => 79 | 0 => 0 | 53 => 115 | 55 => 118 | 4 => 4 | 46 => 134 | 45 => 133 | 50 => 138 | 5 => 5 | 9 => 9 | 66 => 157 | 70 => 161 | 76 => 168 | 77 => 169 | n => n, fun | n => n⟩
theorem Tryz.laysRow : Go.Proofs.SlLaysF.n6 Tryz.prog Tryz.laysRow_ren := {
  mixed := by kernel_rfl
  f6 := ⟨Tryz.f40.name, by decide, Tryz.func40.trans (congrArg some (by kernel_rfl))⟩
  f14 := ⟨Tryz.f69.name, by decide, Tryz.func69.trans (congrArg some (by kernel_rfl))⟩
  f15 := Tryz.func70.trans (congrArg some (by kernel_rfl))
  f20 := ⟨Tryz.f96.name, by decide, Tryz.func96.trans (congrArg some (by kernel_rfl))⟩
  f21 := ⟨Tryz.f97.name, by decide, Tryz.func97.trans (congrArg some (by kernel_rfl))⟩
  f22 := ⟨Tryz.f98.name, by decide, Tryz.func98.trans (congrArg some (by kernel_rfl))⟩
  f23 := ⟨Tryz.f99.name, by decide, Tryz.func99.trans (congrArg some (by kernel_rfl))⟩
  f24 := ⟨Tryz.f100.name, by decide, Tryz.func100.trans (congrArg some (by kernel_rfl))⟩
  f25 := ⟨Tryz.f101.name, by decide, Tryz.func101.trans (congrArg some (by kernel_rfl))⟩
  f26 := ⟨Tryz.f102.name, by decide, Tryz.func102.trans (congrArg some (by kernel_rfl))⟩
  f27 := ⟨Tryz.f103.name, by decide, Tryz.func103.trans (congrArg some (by kernel_rfl))⟩
  f28 := Tryz.func104.trans (congrArg some (by kernel_rfl))
  f29 := Tryz.func105.trans (congrArg some (by kernel_rfl))
  f46 := ⟨Tryz.f132.name, by decide, Tryz.func132.trans (congrArg some (by kernel_rfl))⟩
  f47 := Tryz.func133.trans (congrArg some (by kernel_rfl))
  f48 := Tryz.func134.trans (congrArg some (by kernel_rfl))
  f49 := ⟨Tryz.f135.name, by decide, Tryz.func135.trans (congrArg some (by kernel_rfl))⟩
  f50 := ⟨Tryz.f136.name, by decide, Tryz.func136.trans (congrArg some (by kernel_rfl))⟩
  f57 := ⟨Tryz.f147.name, by decide, Tryz.func147.trans (congrArg some (by kernel_rfl))⟩
  t0 := Tryz.underlying0
  a0 := Tryz.isAgg0
  z0 := Tryz.sizeOf0
  v0 := Tryz.zeroValue0
  t3 := Tryz.underlying3
  a3 := Tryz.isAgg3
  z3 := Tryz.sizeOf3
  v3 := Tryz.zeroValue3
  t4 := Tryz.underlying4
  a4 := Tryz.isAgg4
  z4 := Tryz.sizeOf4
  v4 := Tryz.zeroValue4
  t5 := Tryz.underlying5
  a5 := Tryz.isAgg5
  z5 := Tryz.sizeOf5
  v5 := Tryz.zeroValue5
  t9 := Tryz.underlying9
  a9 := Tryz.isAgg9
  z9 := Tryz.sizeOf9
  v9 := Tryz.zeroValue9
  t22 := Tryz.underlying22
  a22 := Tryz.isAgg22
  z22 := Tryz.sizeOf22
  v22 := Tryz.zeroValue22
  a24 := Tryz.isAgg23
  z24 := Tryz.sizeOf23
  t25 := Tryz.underlying78
  a25 := Tryz.isAgg78
  z25 := Tryz.sizeOf78
  v25 := Tryz.zeroValue78
  t39 := Tryz.underlying79
  a39 := Tryz.isAgg79
  z39 := Tryz.sizeOf79
  v39 := Tryz.zeroValue79
  t45 := Tryz.underlying133
  a45 := Tryz.isAgg133
  z45 := Tryz.sizeOf133
  v45 := Tryz.zeroValue133
  t46 := Tryz.underlying134
  a46 := Tryz.isAgg134
  z46 := Tryz.sizeOf134
  v46 := Tryz.zeroValue134
  t50 := Tryz.underlying138
  a50 := Tryz.isAgg138
  z50 := Tryz.sizeOf138
  v50 := Tryz.zeroValue138
  t53 := Tryz.underlying115
  a53 := Tryz.isAgg115
  z53 := Tryz.sizeOf115
  v53 := Tryz.zeroValue115
  t55 := Tryz.underlying118
  a55 := Tryz.isAgg118
  z55 := Tryz.sizeOf118
  v55 := Tryz.zeroValue118
  t66 := Tryz.underlying157
  a66 := Tryz.isAgg157
  z66 := Tryz.sizeOf157
  v66 := Tryz.zeroValue157
  t70 := Tryz.underlying161
  a70 := Tryz.isAgg161
  z70 := Tryz.sizeOf161
  v70 := Tryz.zeroValue161
  t76 := Tryz.underlying168
  a76 := Tryz.isAgg168
  z76 := Tryz.sizeOf168
  v76 := Tryz.zeroValue168
  t77 := Tryz.underlying169
  a77 := Tryz.isAgg169
  z77 := Tryz.sizeOf169
  v77 := Tryz.zeroValue169 }
end Go.Proofs

/-! ## N3 -/
namespace Go.Proofs.YtdfcnalkdlifiaaGreat
open Go Go.Eng Go.Pure
set_option linter.unusedVariables false
theorem mulN_ct {B : Nat} {w0 : World} {R : List Row} (x y : Nat) (hx : x ≤ 1000000) (hy : y ≤ 1000000) (h : x * y ≤ 1000000) : Ct Tryz.prog 42 #[.int .u64 ((x : Nat) : Int), .int .u64 ((y : Nat) : Int)] B w0 R (fun v R' => v = .tuple #[.int .u64 0, .int .u64 ((x * y : Nat) : Int)] ∧ R' = R) := by
  intro w hw
  have hc := Tryz.bits_Mul x y (by omega) (by omega) w
  rw [Nat.div_eq_of_lt (by omega), Nat.mod_eq_of_lt (by omega)] at hc
  refine hc.mono ?_
  rintro e w' ⟨rfl, rfl⟩
  exact ⟨_, R, rfl, hw, rfl, rfl⟩
theorem wrap_u64M {p : Int} (h : 0 ≤ p ∧ p ≤ 18446744073709551615) : IntKind.u64.wrap p = p := by rw [IntKind.wrap_u64]; omega
set_option maxRecDepth 100000 in
set_option maxHeartbeats 800000 in
theorem repeatB_ct {w : World} {A_u : Option Addr} {n_u c_u : Nat} {u : List Int} {cn : Int} (h_u : Rd w A_u n_u c_u 1 (ints .u8 u)) (hu : 0 < u.length) (hc : 1 ≤ cn) (hP : cn.toNat * u.length ≤ 8000) :
    Ct Tryz.prog 23 #[.slice A_u n_u c_u, .int .i64 cn] w.heap.size w [] (fun v R' => ∃ A c, v = .slice A (rep u cn).length c ∧ R' = [⟨5, 1, A, (rep u cn).length, c, ints .u8 (rep u cn), true⟩]) := by
  obtain rfl := h_u.lenI
  refine fn1 Tryz.func23 rfl rfl rfl ?_
  have m_u := h_u.max
  obtain ⟨N, hN1⟩ : ∃ N : Nat, u.length * cn.toNat = N := ⟨_, rfl⟩
  have hN2 : cn.toNat * u.length = N := by rw [Nat.mul_comm]; exact hN1
  have hN3 : u.length ≤ N := by rw [← hN2]; exact Nat.le_mul_of_pos_left _ (by omega)
  have hN4 : cn.toNat ≤ N := by rw [← hN1]; exact Nat.le_mul_of_pos_left _ hu
  refine w_seq ?_
  refine w_reg ?_
  refine wr_y rfl (y_assign rfl) ?_
  refine wr_nil ?_
  refine w_seq ?_
  refine w_seq ?_
  refine w_reg ?_
  refine wr_y rfl (y_move rfl) ?_
  refine wr_y rfl (Yl.f (y_eq rfl rfl) (by omega)) ?_
  refine wr_nil ?_
  refine w_false rfl ?_
  refine w_skip ?_
  refine w_seq ?_
  refine w_seq ?_
  refine w_reg ?_
  refine wr_y rfl (y_move rfl) ?_
  refine wr_y rfl (Yl.f (y_lt rfl rfl) (by omega)) ?_
  refine wr_nil ?_
  refine w_false rfl ?_
  refine w_skip ?_
  refine w_seq ?_
  refine w_reg ?_
  refine wr_y rfl (y_move rfl) ?_
  refine wr_y rfl (y_len Tryz.underlying23 rfl) ?_
  refine wr_y rfl (Yl.is (y_conv Tryz.underlying3 Tryz.underlying79 rfl) (by rw [wrap_u64M (by omega)])) ?_
  refine wr_y rfl (y_move rfl) ?_
  refine wr_y rfl (Yl.is (y_conv Tryz.underlying3 Tryz.underlying79 rfl) (show Value.int .u64 (IntKind.u64.wrap cn) = Value.int .u64 ((cn.toNat : Nat) : Int) from by rw [wrap_u64M (by omega), Int.toNat_of_nonneg (by omega)])) ?_
  refine wr_a rfl (a_callF en42 rfl (mulN_ct u.length cn.toNat (by omega) (by omega) (by omega))) ?_
  rw [hN1]
  rintro _ _ ⟨rfl, rfl⟩
  refine wr_y rfl (y_move rfl) ?_
  refine wr_y rfl (y_extract rfl rfl) ?_
  refine wr_y rfl (y_extract rfl rfl) ?_
  refine wr_y rfl (y_assign rfl) ?_
  refine wr_y rfl (y_assign rfl) ?_
  refine wr_nil ?_
  refine w_seq ?_
  refine w_seq ?_
  refine w_reg ?_
  refine wr_y rfl (y_move rfl) ?_
  refine wr_y rfl (Yl.f (y_gt rfl rfl) (by omega)) ?_
  refine wr_y rfl (y_move rfl) ?_
  refine wr_yes rfl rfl ?_
  refine wr_y rfl (y_move rfl) ?_
  refine wr_yes rfl rfl ?_
  refine wr_y rfl (Yl.f (y_gt rfl rfl) (by omega)) ?_
  refine wr_y rfl (y_pickF rfl rfl) ?_
  refine wr_nil ?_
  refine w_false rfl ?_
  refine w_skip ?_
  refine w_seq ?_
  refine w_reg ?_
  refine wr_y rfl (y_move rfl) ?_
  refine wr_y rfl (y_convI Tryz.underlying79 Tryz.underlying3 rfl (by omega)) ?_
  refine wr_y rfl (y_assign rfl) ?_
  refine wr_nil ?_
  refine w_seq ?_
  refine w_seq ?_
  refine w_reg ?_
  refine wr_y rfl (y_move rfl) ?_
  refine wr_y rfl (y_len Tryz.underlying23 rfl) ?_
  refine wr_y rfl (Yl.f (y_eq rfl rfl) (by omega)) ?_
  refine wr_nil ?_
  refine w_false rfl ?_
  refine w_skip ?_
  refine w_seq ?_
  refine w_reg ?_
  refine wr_y rfl (y_move rfl) ?_
  refine wr_y rfl (y_assign rfl) ?_
  refine wr_nil ?_
  refine w_seq ?_
  refine w_seq ?_
  refine w_reg ?_
  refine wr_y rfl (y_move rfl) ?_
  refine wr_y rfl (Yl.f (y_gt rfl rfl) (by omega)) ?_
  refine wr_nil ?_
  refine w_false rfl ?_
  refine w_skip ?_
  refine w_seq ?_
  refine w_reg ?_
  refine wr_y rfl (y_move rfl) ?_
  refine wr_a rfl (a_noZero (m := N) (ps := #[3]) Tryz.func43 (by kernel_rfl) (by kernel_rfl) (by kernel_rfl) (by kernel_rfl) Tryz.underlying23 rfl (by omega)) ?_
  rintro _ _ ⟨g_1, C_2, hC, rfl, rfl⟩
  refine wr_y rfl (y_move rfl) ?_
  refine wr_y rfl (y_move rfl) ?_
  refine wr_y rfl (y_sliceHM (h := N) Tryz.underlying23 sz5 rfl rfl rfl rfl rfl hC) ?_
  refine wr_y rfl (y_assign rfl) ?_
  refine wr_nil ?_
  refine w_seq ?_
  refine w_reg ?_
  refine wr_y rfl (y_move rfl) ?_
  refine wr_y rfl (y_move rfl) ?_
  refine wr_a rfl (a_copyEnd (dl := N) 0 rfl Tryz.underlying23 sz5 rfl rfl (rfl) (by omega) (h_u.c _)) ?_
  rintro _ _ ⟨rfl, rfl⟩
  refine wr_rows (R1 := [⟨5, 1, (some ⟨g_1, 0, none⟩), (0 + min u.length N), C_2, ints .u8 (([]) ++ List.take (min u.length N) u), false⟩]) rfl ?_
  refine wr_y rfl (y_assign rfl) ?_
  refine wr_nil ?_
  refine w_seq ?_
  refine w_block ?_
  refine w_loop3 (fun (p : Int) (n1 : Nat) (D : List Int) => [(7, .int .i64 ((N : Nat) : Int)), (8, .int .i64 ((N : Nat) : Int)), (9, .slice (some ⟨g_1, 0, none⟩) N N), (10, .int .i64 p)]) (fun (p : Int) (n1 : Nat) (D : List Int) => [⟨5, 1, (some ⟨g_1, 0, none⟩), n1, C_2, ints .u8 D, false⟩]) (fun (p : Int) (n1 : Nat) (D : List Int) => (n1 = D.length) ∧ (RepI u D N p)) (fun (p : Int) (n1 : Nat) (D : List Int) => (N - p).toNat) ?_ ?_
  ·
    exact ⟨((min u.length N : Nat) : Int), (0 + min u.length N), ([]) ++ List.take (min u.length N) u, ⟨(by rw [List.nil_append, List.length_take]; omega), (RepI.init hN3)⟩, (Sub.cons rfl (Sub.cons rfl (Sub.cons rfl (Sub.cons rfl Sub.nil)))), fun _ h => h⟩
  intro p n1 D ⟨hn1, hI⟩
  have hI1 := hI.p0
  have hI2 := hI.pN
  have hI3 := hI.len
  have hI4 := hI.up
  refine w_seq ?_
  refine w_seq ?_
  refine w_reg ?_
  refine wr_y rfl (y_move rfl) ?_
  refine wr_y rfl (y_move rfl) ?_
  refine wr_y rfl (y_lt rfl rfl) ?_
  refine wr_nil ?_
  refine w_if rfl (fun hc1 => ?_) (fun hc1 => ?_)
  ·
    refine w_skip ?_
    refine w_block ?_
    refine w_seq ?_
    refine w_reg ?_
    refine wr_y rfl (y_move rfl) ?_
    refine wr_y rfl (y_move rfl) ?_
    refine wr_y rfl (y_min rfl rfl) ?_
    refine wr_y rfl (y_assign rfl) ?_
    refine wr_nil ?_
    refine w_regd mixed ?_
    refine wd_y 0 rfl (by kernel_rfl) rfl (y_move rfl) ?_
    refine wd_y 1 rfl (by kernel_rfl) rfl (y_move rfl) ?_
    refine wd_y 2 rfl (by kernel_rfl) rfl (y_move rfl) ?_
    refine wd_y 3 rfl (by kernel_rfl) rfl (y_sliceFrom Tryz.underlying23 sz5 rfl rfl (by omega) (by omega)) ?_
    refine wd_y 4 rfl (by kernel_rfl) rfl (y_move rfl) ?_
    refine wd_y 5 rfl (by kernel_rfl) rfl (y_move rfl) ?_
    refine wd_y 6 rfl (by kernel_rfl) rfl (y_sliceH Tryz.underlying23 sz5 rfl rfl (by omega) (by omega)) ?_
    refine wd_a 7 rfl (by kernel_rfl) rfl (a_copyEnd (dl := (N - (p).toNat)) 0 rfl Tryz.underlying23 sz5 rfl rfl (by rw [cut_addr (by omega), show p.toNat = n1 by omega]) (by omega) (RdC.capI (RdC.toI (rdr 0 rfl) (by omega)) (by omega))) ?_
    rintro _ _ ⟨rfl, rfl⟩
    refine ⟨.inl (by kernel_rfl), ?_⟩
    refine wd_rows (R1 := [⟨5, 1, (some ⟨g_1, 0, none⟩), (n1 + min ((min p ((N : Nat) : Int)).toNat) (N - (p).toNat)), C_2, ints .u8 (D ++ List.take (min ((min p ((N : Nat) : Int)).toNat) (N - (p).toNat)) ((D).take (min p ((N : Nat) : Int)).toNat)), false⟩]) rfl ?_
    refine wd_y 8 rfl (by kernel_rfl) rfl (y_addI rfl rfl (by omega)) ?_
    refine wd_y 9 rfl (by kernel_rfl) rfl (y_assign rfl) ?_
    refine wd_nil (by kernel_rfl) ?_
    exact ⟨p + ((min ((min p ((N : Nat) : Int)).toNat) (N - (p).toNat) : Nat) : Int), (n1 + min ((min p ((N : Nat) : Int)).toNat) (N - (p).toNat)), D ++ List.take (min ((min p ((N : Nat) : Int)).toNat) (N - (p).toNat)) ((D).take (min p ((N : Nat) : Int)).toNat), ⟨(by rw [List.length_append, List.length_take, List.length_take]; omega), (hI.step hu (by omega))⟩, (by omega), (Sub.cons rfl (Sub.cons rfl (Sub.cons rfl (Sub.cons rfl Sub.nil)))), fun _ h => h⟩
  ·
    refine w_exit ?_
    refine w_seq ?_
    refine w_reg ?_
    refine wr_y rfl (y_move rfl) ?_
    refine wr_y rfl (y_assign rfl) ?_
    refine wr_nil ?_
    obtain rfl := hn1
    obtain rfl := hI.done (by omega) hN2.symm
    have hrl : (rep u cn).length = N := by rw [rep_length]; omega
    refine w_retR (R1 := [⟨5, 1, some ⟨g_1, 0, none⟩, (rep u cn).length, (rep u cn).length, ints .u8 (rep u cn), true⟩]) (fun _ h => h.toRo (by simp) (Nat.le_refl _)) ?_
    rw [← hrl]
    exact ⟨_, rfl, _, _, rfl, rfl⟩

theorem rdl_mem2 {ws : List (List Int)} {i : Int} (h0 : 0 ≤ i) (h1 : i < ws.length) : rdl ws i ∈ ws := by
  unfold rdl
  rw [List.getD_eq_getElem?_getD, List.getElem?_eq_getElem (by omega)]
  exact List.getElem_mem _
theorem take_succ_rdl2 {ws : List (List Int)} {i : Int} (h0 : 0 ≤ i) (h1 : i < ws.length) : ws.take (i + 1).toNat = ws.take i.toNat ++ [rdl ws i] := by
  rw [show (i + 1).toNat = i.toNat + 1 by omega, List.take_add_one, List.getElem?_eq_getElem (by omega)]
  unfold rdl
  rw [List.getD_eq_getElem?_getD, List.getElem?_eq_getElem (by omega)]
  rfl
theorem orL_kcmp (x y : List Int) (a b : Int) : orL [cmpL x y, cmpI a b] = kcmp (x, a) (y, b) := by
  unfold kcmp orL orL orL
  simp only
  split
  · rfl
  · split
    · rfl
    · omega
theorem rings_yes {ws : List (List Int)} {l : List RC} {i : Int} {A : Option Addr} {c : Nat} (h0 : 0 ≤ i) (h1 : i < ws.length) (hl : l.map RC.rt = ringsOf (ws.take i.toNat)) (ht : 0 < timesW (lw (rdl ws i))) : (l ++ [(⟨A, c, rootW (lw (rdl ws i)), timesW (lw (rdl ws i))⟩ : RC)]).map RC.rt = ringsOf (ws.take (i + 1).toNat) := by
  have hp : 0 < (rdl ws i).length := by
    rcases Nat.eq_zero_or_pos (rdl ws i).length with z | z
    · rw [List.eq_nil_of_length_eq_zero z] at ht
      simp [lw_nil, timesW] at ht
    · exact z
  rw [List.map_append, hl, take_succ_rdl2 h0 h1, ringsOf_append]
  congr 1
  unfold ringsOf
  simp [hp, RC.rt, ringOf]
theorem rings_no {ws : List (List Int)} {l : List RC} {i : Int} (h0 : 0 ≤ i) (h1 : i < ws.length) (hl : l.map RC.rt = ringsOf (ws.take i.toNat)) (ht : ¬ 0 < timesW (lw (rdl ws i))) : l.map RC.rt = ringsOf (ws.take (i + 1).toNat) := by
  have hp : (rdl ws i).length = 0 := by
    rcases Nat.eq_zero_or_pos (rdl ws i).length with z | z
    · exact z
    · exact absurd (times_pos (c := lw (rdl ws i)) (by rw [lw_len]; exact z)) ht
  rw [hl, take_succ_rdl2 h0 h1, ringsOf_append]
  unfold ringsOf
  simp [hp]
theorem ringsOf_few (ws : List (List Int)) : (ringsOf ws).length ≤ ws.length := by
  unfold ringsOf
  rw [List.length_map]
  exact List.length_filter_le _ _
theorem lw_bytes {u : List Int} (h : ByteL u) : ByteL (lw u) := ByteL.append (h.drop _) (h.take _)
theorem kcmp_swo : Go.Sort.SWO (Go.Proofs.ltOf fun x y : RC => kcmp x.rt y.rt) := by
  have e : ∀ x y : RC, Go.Proofs.ltOf (fun x y : RC => kcmp x.rt y.rt) x y = true ↔ kcmp x.rt y.rt < 0 := fun x y => by simp [Go.Proofs.ltOf]
  have e' : ∀ x y : RC, Go.Proofs.ltOf (fun x y : RC => kcmp x.rt y.rt) x y = false ↔ kcmp y.rt x.rt ≤ 0 := fun x y => by
    rw [← Bool.not_eq_true, e, kcmp_anti x.rt y.rt]; omega
  refine ⟨fun x => ?_, fun x y z h1 h2 => ?_, fun x y z h1 h2 => ?_⟩
  · rw [e', (kcmp_eq x.rt x.rt).2 rfl]; omega
  · rw [e] at h1 h2 ⊢
    have h3 := kcmp_le x.rt y.rt z.rt (by omega) (by omega)
    rcases Int.lt_or_eq_of_le h3 with g | g
    · exact g
    · have g2 := (kcmp_eq _ _).1 g
      rw [g2, kcmp_anti y.rt z.rt] at h1
      omega
  · rw [e'] at h1 h2 ⊢
    exact kcmp_le _ _ _ h2 h1
set_option maxRecDepth 100000 in
theorem ringCmp_ct {w : World} {A_x : Option Addr} {c_x : Nat} {x : List Int} {t_x : Int} {A_y : Option Addr} {c_y : Nat} {y : List Int} {t_y : Int} (h_x : Rd w A_x x.length c_x 1 (ints .u8 x)) (h_y : Rd w A_y y.length c_y 1 (ints .u8 y)) (bh_x : ByteL x) (bh_y : ByteL y) :
    Ct Tryz.prog 64 #[.agg #[.slice A_x x.length c_x, .int .i64 t_x], .agg #[.slice A_y y.length c_y, .int .i64 t_y]] w.heap.size w [] (fun v R' => v = .int .i64 (kcmp (x, t_x) (y, t_y))) := by
  refine fn1 Tryz.func64 rfl rfl rfl ?_
  refine w_seq ?_
  refine w_reg ?_
  refine wr_a rfl (a_box (sz := 2) rfl rfl) ?_
  rintro _ _ ⟨g_1, rfl, rfl⟩
  refine wr_rows (R1 := [⟨73, 2, (some ⟨g_1, 0, none⟩), 1, 1, [.slice A_x x.length c_x, .int .i64 t_x], false⟩]) rfl ?_
  refine wr_a rfl (a_box (sz := 2) rfl rfl) ?_
  rintro _ _ ⟨g_3, rfl, rfl⟩
  refine wr_rows (R1 := [⟨73, 2, (some ⟨g_3, 0, none⟩), 1, 1, [.slice A_y y.length c_y, .int .i64 t_y], false⟩, ⟨73, 2, (some ⟨g_1, 0, none⟩), 1, 1, [.slice A_x x.length c_x, .int .i64 t_x], false⟩]) rfl ?_
  refine wr_y rfl (y_assign rfl) ?_
  refine wr_nil ?_
  refine w_seq ?_
  refine w_regd mixed ?_
  refine wd_y 0 rfl (by kernel_rfl) rfl (y_fieldAt (off := 0) (m := 0) Tryz.underlying73 rfl sz23 rfl rfl rfl) ?_
  refine wd_y 1 rfl (by kernel_rfl) rfl (y_ldIn (rdR 1 (r := ⟨73, 2, (some ⟨g_1, 0, none⟩), 1, 1, [.slice A_x x.length c_x, .int .i64 t_x], false⟩) rfl) Tryz.underlying23 rfl rfl rfl) ?_
  refine wd_y 2 rfl (by kernel_rfl) rfl (y_fieldAt (off := 0) (m := 0) Tryz.underlying73 rfl sz23 rfl rfl rfl) ?_
  refine wd_y 3 rfl (by kernel_rfl) rfl (y_ldIn (rdR 0 (r := ⟨73, 2, (some ⟨g_3, 0, none⟩), 1, 1, [.slice A_y y.length c_y, .int .i64 t_y], false⟩) rfl) Tryz.underlying23 rfl rfl rfl) ?_
  refine wd_y 5 rfl (by kernel_rfl) rfl (y_fieldAt (off := 1) (m := 1) Tryz.underlying73 rfl sz3 rfl rfl rfl) ?_
  refine wd_y 6 rfl (by kernel_rfl) rfl (y_ldIn (rdR 1 (r := ⟨73, 2, (some ⟨g_1, 0, none⟩), 1, 1, [.slice A_x x.length c_x, .int .i64 t_x], false⟩) rfl) Tryz.underlying3 rfl rfl rfl) ?_
  refine wd_y 7 rfl (by kernel_rfl) rfl (y_fieldAt (off := 1) (m := 1) Tryz.underlying73 rfl sz3 rfl rfl rfl) ?_
  refine wd_y 8 rfl (by kernel_rfl) rfl (y_ldIn (rdR 0 (r := ⟨73, 2, (some ⟨g_3, 0, none⟩), 1, 1, [.slice A_y y.length c_y, .int .i64 t_y], false⟩) rfl) Tryz.underlying3 rfl rfl rfl) ?_
  refine wd_a 4 rfl (by kernel_rfl) rfl (a_callF en41 rfl (Ct.quiet (fun w hw => compareBB_ct ((h_x.c _) w hw) ((h_y.c _) w hw) bh_x bh_y))) ?_
  rintro _ _ ⟨rfl, rfl⟩
  refine ⟨.inr fun _ h => h, ?_⟩
  refine wd_a 9 rfl (by kernel_rfl) rfl (a_callF en58 rfl (Ct.quiet (fun w hw => compareI_ct))) ?_
  rintro _ _ ⟨rfl, rfl⟩
  refine ⟨.inr fun _ h => h, ?_⟩
  refine wd_a 10 rfl (by kernel_rfl) rfl (a_litI .i64 [cmpL x y, cmpI t_x t_y] Tryz.underlying24 zs3 rfl rfl rfl) ?_
  rintro _ _ ⟨g_6, rfl, rfl⟩
  refine ⟨.inr fun _ h => h.right (R' := [_]), ?_⟩
  refine wd_a 11 rfl (by kernel_rfl) rfl (a_callF en57 rfl (Ct.quiet (fun w hw => orI_ct ((rdr 0 rfl) w hw)))) ?_
  rintro _ _ ⟨rfl, rfl⟩
  refine ⟨.inr fun _ h => h, ?_⟩
  refine wd_y 12 rfl (by kernel_rfl) rfl (y_assign rfl) ?_
  refine wd_nil (by kernel_rfl) ?_
  refine w_retR (R1 := []) (fun _ h => h.sel [] (by decide) rfl) ?_
  refine ⟨_, rfl, ?_⟩
  exact congrArg (Value.int .i64) (orL_kcmp x y t_x t_y)

theorem sortsRings (cb : Array Value) : SortsK Tryz.prog 63 64 cb 2 := fun α _ enc hk h1 cf hO blk off cap d w hcmp hH hblk hsz =>
  AnyQ.slices_SortFunc Tryz.laysRing 2 (fun w => by kernel_rfl) (fun w => by kernel_rfl) enc hk h1 cf hO 64 cb blk off cap d w en64 hcmp hH hblk hsz
theorem sortsRings0 : SortsNone Tryz.prog 63 := fun p cap fv w => AnyF.slices_SortFunc_none Tryz.laysRing p cap fv w
set_option maxRecDepth 100000 in
set_option maxHeartbeats 1000000 in
theorem rings_ct {w : World} {A_ws : Option Addr} {n_ws c_ws : Nat} {vals_ws : List Value} {ws : List (List Int)} (h_ws : Rd w A_ws n_ws c_ws 1 vals_ws) (s_ws : SlW .u8 w vals_ws ws) (hN : (∀ w ∈ ws, w.length ≤ 8000) ∧ ws.length ≤ 100000) :
    Ct Tryz.prog 36 #[.slice A_ws n_ws c_ws] w.heap.size w [] (fun v R' => ∃ (A : Option Addr) (c : Nat) (l : List RC) (Rs : List Row), v = .slice A l.length c ∧ RgR Rs l ∧ l.map RC.rt = ringS ws ∧ R' = ⟨73, 2, A, l.length, c, rgs l, false⟩ :: Rs) := by
  obtain rfl : n_ws = ws.length := by have := h_ws.len; have := s_ws.1; omega
  refine fn1 Tryz.func36 rfl rfl rfl ?_
  have m_ws := h_ws.max
  have hob := s_ws.okB
  refine w_seq ?_
  refine w_reg ?_
  refine wr_y rfl (y_assign rfl) ?_
  refine wr_nil ?_
  refine w_seq ?_
  refine w_reg ?_
  refine wr_sub (R1 := (⟨73, 2, none, 0, 0, rgs ([]), false⟩ :: [])) (Sub.refl _) (fun _ h => h.nil 73 2) ?_
  refine wr_y rfl (y_assign rfl) ?_
  refine wr_nil ?_
  refine w_seq ?_
  refine w_seq ?_
  refine w_reg ?_
  refine wr_y rfl (y_move rfl) ?_
  refine wr_y rfl (y_len Tryz.underlying22 rfl) ?_
  refine wr_y rfl (y_move rfl) ?_
  refine wr_nil ?_
  refine w_block ?_
  refine w_loop6 (fun (i : Int) (A1 : Option Addr) (n1 : Nat) (c1 : Nat) (l : List RC) (Rs : List Row) => [(3, .slice A1 n1 c1), (8, .slice A_ws ws.length c_ws), (9, .int .i64 ((ws.length : Nat) : Int)), (10, .int .i64 i)]) (fun (i : Int) (A1 : Option Addr) (n1 : Nat) (c1 : Nat) (l : List RC) (Rs : List Row) => (⟨73, 2, A1, n1, c1, rgs l, false⟩ :: Rs)) (fun (i : Int) (A1 : Option Addr) (n1 : Nat) (c1 : Nat) (l : List RC) (Rs : List Row) => (0 ≤ i) ∧ (i ≤ ws.length) ∧ (n1 = l.length) ∧ (RgR Rs l) ∧ (l.map RC.rt = ringsOf (ws.take i.toNat))) (fun (i : Int) (A1 : Option Addr) (n1 : Nat) (c1 : Nat) (l : List RC) (Rs : List Row) => (ws.length - i).toNat) ?_ ?_
  ·
    exact ⟨0, none, 0, 0, [], [], ⟨(by omega), (by omega), (rfl), (RgR.nil _), (rfl)⟩, (Sub.cons rfl (Sub.cons rfl (Sub.cons rfl (Sub.cons rfl Sub.nil)))), fun _ h => h⟩
  intro i A1 n1 c1 l Rs ⟨hi0, hi1, hn1, hrg, hl⟩
  have hll := congrArg List.length hl
  rw [List.length_map] at hll
  have hlf := ringsOf_few (ws.take i.toNat)
  rw [List.length_take] at hlf
  have hwl : 0 ≤ i → i < ws.length → (rdl ws i).length ≤ 8000 := fun h h' => hN.1 _ (rdl_mem2 h h')
  refine w_seq ?_
  refine w_reg ?_
  refine wr_y rfl (y_lt rfl rfl) ?_
  refine wr_nil ?_
  refine w_seq ?_
  refine w_if rfl (fun hc1 => ?_) (fun hc1 => ?_)
  ·
    have hwl2 := hwl hi0 (by omega)
    refine w_skip ?_
    refine w_seq ?_
    refine w_block ?_
    refine w_seq ?_
    refine w_reg ?_
    refine wr_y rfl (y_index1 Tryz.underlying22 sz23 rfl rfl (h_ws.c _) (by omega) (by omega)) ?_
    refine s_ws.elim (i := i) (by omega) (by omega) (fun A_1 c_2 hv_3 hr_4 hb_5 mhr_4 => ?_)
    refine wr_y rfl (y_ld Tryz.underlying23 rfl rfl rfl (h_ws.c _) hv_3) ?_
    refine wr_y rfl (y_assign rfl) ?_
    refine wr_nil ?_
    refine w_seq ?_
    refine w_reg ?_
    refine wr_y rfl (y_move rfl) ?_
    refine wr_a rfl (a_callF en62 rfl (Ct.fresh (fun w hw => ofL_ct ((hr_4.c _) w hw) (byteL_wf hb_5) (by omega)))) ?_
    rintro _ _ ⟨_, rfl, A_6, c_7, rfl, rfl⟩
    refine wr_a rfl (a_callF en61 rfl (Ct.fresh (fun w hw => rootP_ct ((rdr 0 rfl) w hw) (by rw [lw_len]; omega)))) ?_
    rintro _ _ ⟨_, rfl, A_9, c_10, rfl, rfl⟩
    refine wr_y rfl (y_move rfl) ?_
    refine wr_y rfl (y_extract rfl rfl) ?_
    refine wr_y rfl (y_extract rfl rfl) ?_
    refine wr_y rfl (y_assign rfl) ?_
    refine wr_y rfl (y_assign rfl) ?_
    refine wr_nil ?_
    refine w_seq ?_
    refine w_reg ?_
    refine wr_y rfl (y_move rfl) ?_
    refine wr_y rfl (y_gt rfl rfl) ?_
    refine wr_nil ?_
    refine w_if rfl (fun hc2 => ?_) (fun hc2 => ?_)
    ·
      refine w_reg ?_
      refine wr_y rfl (y_move rfl) ?_
      refine wr_y rfl (y_move rfl) ?_
      refine wr_y rfl (y_move rfl) ?_
      refine wr_y rfl (y_build (v := .agg #[.slice A_9 ((rootW (lw (rdl ws i))).length) c_10, .int .i64 (timesW (lw (rdl ws i)))]) rfl (fun w => by kernel_rfl)) ?_
      refine wr_a rfl (a_litR ⟨A_9, c_10, rootW (lw (rdl ws i)), timesW (lw (rdl ws i))⟩ Tryz.underlying70 zs73 rfl) ?_
      rintro _ _ ⟨g_12, rfl, rfl⟩
      refine wr_a rfl (a_appendR 3 rfl Tryz.underlying70 zb73 rfl rfl rfl rfl (rdr 0 rfl) (by omega)) ?_
      rintro _ _ ⟨A_13, c_14, rfl, rfl⟩
      refine wr_rows (R1 := (⟨73, 2, (some ⟨g_12, 0, none⟩), 1, 1, rgs ([⟨A_9, c_10, rootW (lw (rdl ws i)), timesW (lw (rdl ws i))⟩]), false⟩ :: ⟨5, 1, A_9, (rootW (lw (rdl ws i))).length, c_10, ints .u8 (rootW (lw (rdl ws i))), false⟩ :: ⟨5, 1, A_6, (lw (rdl ws i)).length, c_7, ints .u8 (lw (rdl ws i)), false⟩ :: ⟨73, 2, A_13, (n1 + 1), c_14, rgs (l ++ ([⟨A_9, c_10, rootW (lw (rdl ws i)), timesW (lw (rdl ws i))⟩])), false⟩ :: Rs)) rfl ?_
      refine wr_as (v := .slice A_13 (n1 + 1) c_14) rfl ?_
      refine wr_y rfl (y_assign rfl) ?_
      refine wr_nil ?_
      refine w_reg ?_
      refine wr_y rfl (y_addI rfl rfl (by omega)) ?_
      refine wr_y rfl (y_move rfl) ?_
      refine wr_nil ?_
      exact ⟨i + 1, A_13, n1 + 1, c_14, l ++ ([⟨A_9, c_10, rootW (lw (rdl ws i)), timesW (lw (rdl ws i))⟩]), (⟨5, 1, A_9, (rootW (lw (rdl ws i))).length, c_10, ints .u8 (rootW (lw (rdl ws i))), false⟩ :: Rs), ⟨(by omega), (by omega), (by rw [List.length_append, hn1]; rfl), (hrg.snoc rfl (ByteL.take (lw_bytes (hob _ (rdl_mem2 hi0 (by omega))).1) _)), (rings_yes hi0 (by omega) hl (by assumption))⟩, (by omega), (Sub.cons rfl (Sub.cons rfl (Sub.cons rfl (Sub.cons rfl Sub.nil)))), fun _ h => h.selR (F := [_, _, _, _]) (F' := [_, _]) [3, 1] (by decide) rfl⟩
    ·
      refine w_skip ?_
      refine w_reg ?_
      refine wr_y rfl (y_addI rfl rfl (by omega)) ?_
      refine wr_y rfl (y_move rfl) ?_
      refine wr_nil ?_
      exact ⟨i + 1, A1, n1, c1, l, Rs, ⟨(by omega), (by omega), (hn1), (hrg), (rings_no hi0 (by omega) hl (by assumption))⟩, (by omega), (Sub.cons rfl (Sub.cons rfl (Sub.cons rfl (Sub.cons rfl Sub.nil)))), fun _ h => h.selR (F := [_, _, _]) (F' := [_]) [2] (by decide) rfl⟩
  ·
    obtain rfl := hn1
    obtain rfl : i = ws.length := by omega
    rw [Int.toNat_natCast, List.take_length] at hl
    refine w_exit ?_
    refine w_seq ?_
    refine w_reg ?_
    refine wr_y rfl (y_move rfl) ?_
    refine wr_a rfl (a_callF en63 rfl (sort_cells (enc := encR) (sortsRings _) sortsRings0 (fun _ => rfl) encR_one (l := l) 0 rfl (by omega) (fun x y => kcmp x.rt y.rt) kcmp_swo (fun W hW x hx y hy => ringCmp_ct ((hrg x hx).2 _ _ _ hW) ((hrg y hy).2 _ _ _ hW) (hrg x hx).1 (hrg y hy).1))) ?_
    rintro _ _ ⟨rfl, l1, hp1, hs1, rfl⟩
    rw [← hp1.length_eq]
    refine wr_rows (R1 := (⟨73, 2, A1, l1.length, c1, rgs l1, false⟩ :: Rs)) rfl ?_
    refine wr_nil ?_
    refine w_seq ?_
    refine w_reg ?_
    refine wr_y rfl (y_move rfl) ?_
    refine wr_y rfl (y_assign rfl) ?_
    refine wr_nil ?_
    refine w_retR (R1 := (⟨73, 2, A1, l1.length, c1, rgs l1, false⟩ :: Rs)) (fun _ h => h) ?_
    refine ⟨_, rfl, ?_⟩
    exact ⟨_, _, l1, Rs, rfl, hrg.perm hp1, ringS_one ((hp1.map RC.rt).trans (by rw [hl])) (List.pairwise_map.2 (hs1.imp fun {a b} h => by rw [kcmp_anti a.rt b.rt] at h; omega)), rfl⟩

end Go.Proofs.YtdfcnalkdlifiaaGreat

/-! ## E23 -/
namespace Go.Eng
open Go Go.RowKit
section
variable {P : Program} {n : Nd} {B : Nat} {w0 : World} {ops : Array Oper} {K : Env → List Row → Prop} {L : Env} {R Rc : List Row} {op : Op} {ty : TypeId} {pos : String} {aft : Array Edge}
/-- R: what is known; Rc: what has come up rests on. -/
def WDc (P : Program) (n : Nd) (B : Nat) (w0 : World) (ops : Array Oper) (K : Env → List Row → Prop) (fuel : Nat) (listed : Array Bool) (L : Env) (R Rc : List Row) : Prop :=
  ∀ a w (Q : Exit → Act → World → Prop), Sat n L a → Hp B w0 w R → (∀ w, Hp B w0 w R → Hp B w0 w Rc) → (∀ c a w, ¬ Q (.panic c) a w) → (∀ a' w' L' R', Sat n L' a' → Hp B w0 w' R' → K L' R' → Q .normal a' w') → wpAnyB P ops Q fuel (fun w => Hp B w0 w Rc) listed a w
def Turnc (P : Program) (n : Nd) (B : Nat) (w0 : World) (ops : Array Oper) (K : Env → List Row → Prop) (fuel : Nat) (listed : Array Bool) (L : Env) (R Rc : List Row) (i : Nat) : Prop :=
  ∀ a w (Q : Exit → Act → World → Prop), Sat n L a → Hp B w0 w R → (∀ w, Hp B w0 w R → Hp B w0 w Rc) → (∀ c a w, ¬ Q (.panic c) a w) → (∀ a' w' L' R', Sat n L' a' → Hp B w0 w' R' → K L' R' → Q .normal a' w') →
    wpOp P ops Q i (fun a' w' => ∃ S' : World → Prop, S' w' ∧ (barB ops listed i = true ∨ ∀ x, S' x → Hp B w0 x Rc) ∧ wpAnyB P ops Q fuel S' (listed.setIfInBounds i true) a' w') a w
theorem cd_y {d : Nat} {v : Value} {fuel : Nat} {listed : Array Bool} (i : Nat) (hi : ops[i]? = some { dst := some d, op := op, type := ty, pos := pos, after := aft, guard := none }) (hc : chk ops listed i = true) (hn : Nat.blt d n = true)
    (hy : Yl P n B w0 op ty L Rc v) (h : WDc P n B w0 ops K fuel (listed.setIfInBounds i true) ((d, v) :: L) R Rc) : WDc P n B w0 ops K (fuel + 1) listed L R Rc := by
  intro a w Q hs hp hsub hpan hq
  simp only [chk, Bool.and_eq_true] at hc
  obtain ⟨⟨⟨h1, h2⟩, h3⟩, h4⟩ := hc
  refine wpAnyB_first hi (Region.noSelect_spec h1) (fun c a w hh => (hpan c _ w hh).elim) fuel _ listed a w h4 (Region.free_spec hi h2) (by simpa using h3) (.inl ⟨rfl, fun w hw => hy a w _ rfl rfl hs hw⟩) (hsub w hp) ?_
  exact h _ w Q (hs.put hn v) hp hsub hpan hq
theorem cd_nil {fuel : Nat} {listed : Array Bool} (hr : Region.ready .any ops listed = []) (h : K L R) : WDc P n B w0 ops K fuel listed L R Rc := by
  intro a w Q hs hp _ hpan hq
  cases fuel with
  | zero => exact ⟨hr, hq _ _ L R hs hp h⟩
  | succ fuel => exact ⟨fun _ => hq _ _ L R hs hp h, by rw [hr]; simp⟩
theorem c1_a {d : Nat} {Post : Value → List Row → Prop} {fuel : Nat} {listed : Array Bool} (i : Nat) (hi : ops[i]? = some { dst := some d, op := op, type := ty, pos := pos, after := aft, guard := none }) (hn : Nat.blt d n = true) (ha : Ac P n B w0 op ty L R Post)
    (h : ∀ v R', Post v R' → (∀ w, Hp B w0 w R' → Hp B w0 w Rc) ∧ WDc P n B w0 ops K fuel (listed.setIfInBounds i true) ((d, v) :: L) R' Rc) : Turnc P n B w0 ops K fuel listed L R Rc i := by
  intro a w Q hs hp hsub hpan hq
  unfold wpOp
  simp only [hi]
  rw [if_pos (by simp [Region.wanted])]
  refine .inl (ha a w _ _ Q rfl rfl hs hp fun v w' R' hp' hv => ?_)
  obtain ⟨h1, h2⟩ := h v R' hv
  exact ⟨fun w => Hp B w0 w Rc, h1 w' hp', .inr fun _ h => h, h2 _ w' Q (hs.put hn v) hp' h1 hpan hq⟩
theorem cd_one {fuel : Nat} {listed : Array Bool} (i : Nat) (hr : Region.ready .any ops listed = [i]) (hi : Turnc P n B w0 ops K fuel listed L R Rc i) : WDc P n B w0 ops K (fuel + 1) listed L R Rc := by
  intro a w Q hs hp hsub hpan hq
  refine ⟨fun h0 => absurd (hr ▸ h0) (by simp), fun k hk => ?_⟩
  rw [hr] at hk
  obtain rfl := List.mem_singleton.1 hk
  exact hi a w Q hs hp hsub hpan hq
theorem cd_two {fuel : Nat} {listed : Array Bool} (i j : Nat) (hr : Region.ready .any ops listed = [i, j]) (hi : Turnc P n B w0 ops K fuel listed L R Rc i) (hj : Turnc P n B w0 ops K fuel listed L R Rc j) : WDc P n B w0 ops K (fuel + 1) listed L R Rc := by
  intro a w Q hs hp hsub hpan hq
  refine ⟨fun h0 => absurd (hr ▸ h0) (by simp), fun k hk => ?_⟩
  rw [hr] at hk
  rcases List.mem_cons.1 hk with rfl | hk
  · exact hi a w Q hs hp hsub hpan hq
  · obtain rfl := List.mem_singleton.1 hk
    exact hj a w Q hs hp hsub hpan hq
theorem cd_as {fuel : Nat} {listed : Array Bool} {d : Nat} {u v : Value} (hu : u = v) (h : WDc P n B w0 ops K fuel listed ((d, v) :: L) R Rc) : WDc P n B w0 ops K fuel listed ((d, u) :: L) R Rc := by
  subst hu
  exact h
theorem cd_rows {fuel : Nat} {listed : Array Bool} {R1 : List Row} (hR : R = R1) (h : WDc P n B w0 ops K fuel listed L R1 Rc) : WDc P n B w0 ops K fuel listed L R Rc := by
  subst hR
  exact h
end
end Go.Eng

/-! ## E29 -/
namespace Go.Eng
open Go Go.RowKit Go.Pure
section
variable {P : Program} {n : Nd} {B : Nat} {w0 : World} {L : Env} {R : List Row} {ty : TypeId}
theorem RdC.toV {A : Option Addr} {m h c : Nat} {xs : List Value} (hr : RdC B w0 R A m c 1 xs) (h2 : h ≤ m) : RdC B w0 R A h c 1 (xs.take h) := by
  have := hr.to h2
  rwa [Nat.mul_one] at this
theorem RdC.fromV {A : Option Addr} {m c l : Nat} {xs : List Value} (hr : RdC B w0 R A m c 1 xs) (h1 : l ≤ m) : RdC B w0 R (cutA A l c 1) (m - l) (c - l) 1 (xs.drop l) := fun w hw => by
  have h := hr.cut h1 (Nat.le_refl m) w hw
  have hl := (hr w hw).len
  rw [Nat.mul_one, Nat.mul_one, List.take_of_length_le (by rw [List.length_drop]; omega)] at h
  exact h
/-- A drawn region whose computing rests on some of the rows alone. -/
theorem w_regdc {id : Nat} {l : List Oper} {Q : PostC} {Rc : List Row} (hm : P.follows .mixedOrders = true) (hR : ∀ w, Hp B w0 w R → Hp B w0 w Rc) (h : WDc P n B w0 l.toArray Q.nrm l.toArray.size (Array.replicate l.toArray.size false) L R Rc) (hd : noDef n.rd l = true := by exact rfl) : W P n B w0 (.region id l.toArray true) Q L R := by
  intro a w hs hp
  refine wpIn_region_any hm (anyIn PQ_out hd _ _ _ _ <| wpAny_of_B _ _ _ _ _ (h a _ _ hs (hp.drawn _ (Nat.le_succ _)) hR (fun _ _ _ h => h) fun _ _ L' R' hs' hp' hk => ⟨L', R', hs', hp', hk⟩))
theorem SlR.nilR (k : IntKind) (Rs : List Row) : SlR k Rs [] [] := ⟨rfl, fun j hj => by simp at hj⟩
theorem canon_ok {ws : List (List Int)} (h : OkB ws) : OkB (canon ws) := fun c hc => by
  obtain ⟨w, h1, h2, rfl⟩ := mem_canon hc
  have h3 := h w h1
  rw [lw_len]
  exact ⟨ByteL.append (h3.1.drop _) (h3.1.take _), h3.2⟩
theorem canon_few (ws : List (List Int)) : (canon ws).length ≤ ws.length := by
  rw [canon_len]
  unfold ringsOf
  rw [List.length_map]
  exact List.length_filter_le _ _
end
end Go.Eng

/-! ## N4 -/
namespace Go.Proofs.YtdfcnalkdlifiaaGreat
open Go Go.Eng Go.Pure
set_option linter.unusedVariables false
theorem rt_step {β : Type} (f : RC → β) {lr : List RC} {i : Int} (h0 : 0 ≤ i) (h1 : i < lr.length) : (lr.take (i + 1).toNat).map f = (lr.take i.toNat).map f ++ [f (rdG lr i)] := by
  rw [show (i + 1).toNat = i.toNat + 1 by omega, List.take_add_one, List.getElem?_eq_getElem (by omega), List.map_append]
  unfold rdG
  rw [List.getD_eq_getElem?_getD, List.getElem?_eq_getElem (by omega)]
  rfl
theorem rt_done {lr : List RC} {ws : List (List Int)} {i : Int} (hl : lr.map RC.rt = ringS ws) (hi : (lr.length : Int) ≤ i) : (lr.take i.toNat).map RC.root = (ringS ws).map Prod.fst ∧ (lr.take i.toNat).map RC.times = (ringS ws).map Prod.snd := by
  rw [List.take_of_length_le (by omega), ← hl, List.map_map, List.map_map]
  exact ⟨rfl, rfl⟩
set_option maxRecDepth 100000 in
set_option maxHeartbeats 1500000 in
theorem rootsN_ct {w : World} {A_ws : Option Addr} {n_ws c_ws : Nat} {vals_ws : List Value} {ws : List (List Int)} (h_ws : Rd w A_ws n_ws c_ws 1 vals_ws) (s_ws : SlW .u8 w vals_ws ws) (hN : (∀ w ∈ ws, w.length ≤ 8000) ∧ ws.length ≤ 100000) :
    Ct Tryz.prog 20 #[.slice A_ws n_ws c_ws] w.heap.size w [] (fun v R' => ∃ (A : Option Addr) (c : Nat) (A2 : Option Addr) (c2 : Nat) (vals : List Value) (Rs : List Row), v = .tuple #[.slice A vals.length c, .slice A2 ((ringS ws).map Prod.snd).length c2] ∧ SlR .u8 Rs vals ((ringS ws).map Prod.fst) ∧ R' = ⟨23, 1, A, vals.length, c, vals, false⟩ :: ⟨3, 1, A2, ((ringS ws).map Prod.snd).length, c2, ints .i64 ((ringS ws).map Prod.snd), false⟩ :: Rs) := by
  obtain rfl : n_ws = ws.length := by have := h_ws.len; have := s_ws.1; omega
  refine fn2 Tryz.func20 rfl rfl rfl ?_
  have m_ws := h_ws.max
  refine w_seq ?_
  refine w_reg ?_
  refine wr_sub (R1 := (⟨23, 1, none, 0, 0, [], false⟩ :: [])) (Sub.refl _) (fun _ h => h.nil 23 1) ?_
  refine wr_y rfl (y_assign rfl) ?_
  refine wr_sub (R1 := (⟨3, 1, none, 0, 0, ints .i64 ([]), false⟩ :: ⟨23, 1, none, 0, 0, [], false⟩ :: [])) (Sub.refl _) (fun _ h => h.nil 3 1) ?_
  refine wr_y rfl (y_assign rfl) ?_
  refine wr_nil ?_
  refine w_seq ?_
  refine w_seq ?_
  refine w_reg ?_
  refine wr_y rfl (y_move rfl) ?_
  refine wr_a rfl (a_callF en36 rfl (Ct.fresh (fun w hw => rings_ct ((h_ws.c _) w hw) (s_ws.c hw) (by first | assumption | omega | decide)))) ?_
  rintro _ _ ⟨_, rfl, A_1, c_2, l_3, Rs_4, rfl, hrg_5, hlr_6, rfl⟩
  refine wr_sub (R1 := (⟨73, 2, A_1, l_3.length, c_2, rgs l_3, false⟩ :: ⟨3, 1, none, 0, 0, ints .i64 ([]), false⟩ :: ⟨23, 1, none, 0, 0, [], false⟩ :: Rs_4)) (Sub.refl _) (fun _ h => Hp.toTail0 (X := [_]) (Y := [_, _]) h) ?_
  refine wr_y rfl (y_len Tryz.underlying70 rfl) ?_
  refine wr_y rfl (y_move rfl) ?_
  refine wr_nil ?_
  refine w_block ?_
  refine w_loop10 (fun (i : Int) (A1 : Option Addr) (n1 : Nat) (c1 : Nat) (vals : List Value) (ls : List (List Int)) (A2 : Option Addr) (n2 : Nat) (c2 : Nat) (ts : List Int) => [(2, .slice A1 n1 c1), (3, .slice A2 n2 c2), (7, .slice A_1 l_3.length c_2), (8, .int .i64 ((l_3.length : Nat) : Int)), (9, .int .i64 i)]) (fun (i : Int) (A1 : Option Addr) (n1 : Nat) (c1 : Nat) (vals : List Value) (ls : List (List Int)) (A2 : Option Addr) (n2 : Nat) (c2 : Nat) (ts : List Int) => (⟨73, 2, A_1, l_3.length, c_2, rgs l_3, false⟩ :: ⟨3, 1, A2, n2, c2, ints .i64 ts, false⟩ :: ⟨23, 1, A1, n1, c1, vals, false⟩ :: Rs_4)) (fun (i : Int) (A1 : Option Addr) (n1 : Nat) (c1 : Nat) (vals : List Value) (ls : List (List Int)) (A2 : Option Addr) (n2 : Nat) (c2 : Nat) (ts : List Int) => (0 ≤ i) ∧ (i ≤ l_3.length) ∧ (n1 = vals.length) ∧ (n2 = ts.length) ∧ (SlR .u8 Rs_4 vals ls) ∧ (ls = (l_3.take i.toNat).map RC.root) ∧ (ts = (l_3.take i.toNat).map RC.times)) (fun (i : Int) (A1 : Option Addr) (n1 : Nat) (c1 : Nat) (vals : List Value) (ls : List (List Int)) (A2 : Option Addr) (n2 : Nat) (c2 : Nat) (ts : List Int) => (l_3.length - i).toNat) ?_ ?_
  ·
    exact ⟨0, none, 0, 0, [], [], none, 0, 0, [], ⟨(by omega), (by omega), (rfl), (rfl), (SlR.nilR _ _), (rfl), (rfl)⟩, (Sub.cons rfl (Sub.cons rfl (Sub.cons rfl (Sub.cons rfl (Sub.cons rfl Sub.nil))))), fun _ h => h⟩
  intro i A1 n1 c1 vals ls A2 n2 c2 ts ⟨hi0, hi1, hn1, hn2, hsl, hls, hts⟩
  have hll := congrArg List.length hls
  rw [List.length_map, List.length_take] at hll
  have hlt := congrArg List.length hts
  rw [List.length_map, List.length_take] at hlt
  have hsn := hsl.1
  have hfew : l_3.length ≤ ws.length := by have h1 := congrArg List.length hlr_6; rw [List.length_map, (ringS_perm ws).length_eq] at h1; have h2 := ringsOf_few ws; omega
  refine w_seq ?_
  refine w_reg ?_
  refine wr_y rfl (y_lt rfl rfl) ?_
  refine wr_nil ?_
  refine w_seq ?_
  refine w_if rfl (fun hc1 => ?_) (fun hc1 => ?_)
  ·
    refine w_skip ?_
    refine w_seq ?_
    refine w_block ?_
    refine w_seq ?_
    refine w_reg ?_
    refine wr_y rfl (y_index Tryz.underlying70 sz73 rfl rfl (rdr 0 rfl) rfl (by omega) (by omega)) ?_
    have hr_8 := (hrg_5 _ (rdG_mem (l := l_3) (i := i) (by omega) (by omega))).2
    refine wr_y rfl (y_ldR Tryz.underlying73 rfl sz73 rfl (rdr 0 rfl) (by omega) (by omega)) ?_
    refine wr_a rfl (a_alloc (sz := 2) zz73 rfl) ?_
    rintro _ _ ⟨g_10, rfl, rfl⟩
    refine wr_rows (R1 := (⟨73, 2, (some ⟨g_10, 0, none⟩), 1, 1, [.slice none 0 0, .int .i64 0], false⟩ :: ⟨73, 2, A_1, l_3.length, c_2, rgs l_3, false⟩ :: ⟨3, 1, A2, n2, c2, ints .i64 ts, false⟩ :: ⟨23, 1, A1, n1, c1, vals, false⟩ :: Rs_4)) rfl ?_
    refine wr_n (a_storeAll (vs := [.slice ((rdG l_3 i).A) ((rdG l_3 i).root.length) ((rdG l_3 i).c), .int .i64 ((rdG l_3 i).times)]) 0 rfl sz73 rfl rfl rfl (by intro v hv; simp at hv; rcases hv with rfl | rfl <;> rfl) rfl) ?_
    rintro _ _ rfl
    refine wr_rows (R1 := (⟨73, 2, (some ⟨g_10, 0, none⟩), 1, 1, [.slice ((rdG l_3 i).A) ((rdG l_3 i).root.length) ((rdG l_3 i).c), .int .i64 ((rdG l_3 i).times)], false⟩ :: ⟨73, 2, A_1, l_3.length, c_2, rgs l_3, false⟩ :: ⟨3, 1, A2, n2, c2, ints .i64 ts, false⟩ :: ⟨23, 1, A1, n1, c1, vals, false⟩ :: Rs_4)) rfl ?_
    refine wr_nil ?_
    refine w_regdc (Rc := (⟨73, 2, (some ⟨g_10, 0, none⟩), 1, 1, [.slice ((rdG l_3 i).A) ((rdG l_3 i).root.length) ((rdG l_3 i).c), .int .i64 ((rdG l_3 i).times)], false⟩ :: Rs_4)) mixed (fun _ h => h.selR (F := [_, _, _, _]) (F' := [_]) [0] (by decide) rfl) ?_
    refine cd_y 0 rfl (by kernel_rfl) rfl (y_move rfl) ?_
    refine cd_y 1 rfl (by kernel_rfl) rfl (y_fieldAt (off := 0) (m := 0) Tryz.underlying73 rfl sz23 rfl rfl rfl) ?_
    refine cd_y 2 rfl (by kernel_rfl) rfl (y_ldIn (rdR 0 (r := ⟨73, 2, (some ⟨g_10, 0, none⟩), 1, 1, [.slice ((rdG l_3 i).A) ((rdG l_3 i).root.length) ((rdG l_3 i).c), .int .i64 ((rdG l_3 i).times)], false⟩) rfl) Tryz.underlying23 rfl rfl rfl) ?_
    refine cd_y 5 rfl (by kernel_rfl) rfl (y_move rfl) ?_
    refine cd_y 6 rfl (by kernel_rfl) rfl (y_fieldAt (off := 1) (m := 1) Tryz.underlying73 rfl sz3 rfl rfl rfl) ?_
    refine cd_y 7 rfl (by kernel_rfl) rfl (y_ldIn (rdR 0 (r := ⟨73, 2, (some ⟨g_10, 0, none⟩), 1, 1, [.slice ((rdG l_3 i).A) ((rdG l_3 i).root.length) ((rdG l_3 i).c), .int .i64 ((rdG l_3 i).times)], false⟩) rfl) Tryz.underlying3 rfl rfl rfl) ?_
    refine cd_two 3 8 (by kernel_rfl) ?_ ?_
    ·
      refine c1_a 3 rfl rfl (a_lit [Value.slice ((rdG l_3 i).A) ((rdG l_3 i).root.length) ((rdG l_3 i).c)] Tryz.underlying22 zs23 rfl rfl rfl rfl) ?_
      rintro _ _ ⟨g_12, rfl, rfl⟩
      refine ⟨fun _ h => h.selR (F := [_, _, _, _, _]) (F' := [_]) [1] (by decide) rfl, ?_⟩
      refine cd_two 4 8 (by kernel_rfl) ?_ ?_
      ·
        refine c1_a 4 rfl rfl (a_append 4 rfl rfl Tryz.underlying22 zb23 rfl rfl rfl rfl rfl (rdr 0 rfl) (by simp [Value.oneCell']) (by dsimp only; omega)) ?_
        rintro _ _ ⟨A_13, c_14, rfl, rfl⟩
        refine ⟨fun _ h => h.selR (F := [_, _, _, _, _]) (F' := [_]) [1] (by decide) rfl, ?_⟩
        refine cd_rows (R1 := (⟨23, 1, (some ⟨g_12, 0, none⟩), 1, 1, [Value.slice ((rdG l_3 i).A) ((rdG l_3 i).root.length) ((rdG l_3 i).c)], false⟩ :: ⟨73, 2, (some ⟨g_10, 0, none⟩), 1, 1, [.slice ((rdG l_3 i).A) ((rdG l_3 i).root.length) ((rdG l_3 i).c), .int .i64 ((rdG l_3 i).times)], false⟩ :: ⟨73, 2, A_1, l_3.length, c_2, rgs l_3, false⟩ :: ⟨3, 1, A2, n2, c2, ints .i64 ts, false⟩ :: ⟨23, 1, A_13, (n1 + 1), c_14, vals ++ ([Value.slice ((rdG l_3 i).A) ((rdG l_3 i).root.length) ((rdG l_3 i).c)]), false⟩ :: Rs_4)) rfl ?_
        refine cd_as (v := .slice A_13 (n1 + 1) c_14) rfl ?_
        refine cd_one 8 (by kernel_rfl) ?_
        refine c1_a 8 rfl rfl (a_litI .i64 [(rdG l_3 i).times] Tryz.underlying24 zs3 rfl rfl rfl) ?_
        rintro _ _ ⟨g_16, rfl, rfl⟩
        refine ⟨fun _ h => h.selR (F := [_, _, _, _, _, _]) (F' := [_]) [2] (by decide) rfl, ?_⟩
        refine cd_one 9 (by kernel_rfl) ?_
        refine c1_a 9 rfl rfl (a_appendI 4 rfl Tryz.underlying24 zb3 rfl rfl rfl (rdr 0 rfl) (by omega)) ?_
        rintro _ _ ⟨A_17, c_18, rfl, rfl⟩
        refine ⟨fun _ h => h.selR (F := [_, _, _, _, _, _]) (F' := [_]) [2] (by decide) rfl, ?_⟩
        refine cd_rows (R1 := (⟨3, 1, (some ⟨g_16, 0, none⟩), 1, 1, ints .i64 ([(rdG l_3 i).times]), false⟩ :: ⟨23, 1, (some ⟨g_12, 0, none⟩), 1, 1, [Value.slice ((rdG l_3 i).A) ((rdG l_3 i).root.length) ((rdG l_3 i).c)], false⟩ :: ⟨73, 2, (some ⟨g_10, 0, none⟩), 1, 1, [.slice ((rdG l_3 i).A) ((rdG l_3 i).root.length) ((rdG l_3 i).c), .int .i64 ((rdG l_3 i).times)], false⟩ :: ⟨73, 2, A_1, l_3.length, c_2, rgs l_3, false⟩ :: ⟨3, 1, A_17, (n2 + 1), c_18, ints .i64 (ts ++ ([(rdG l_3 i).times])), false⟩ :: ⟨23, 1, A_13, (n1 + 1), c_14, vals ++ ([Value.slice ((rdG l_3 i).A) ((rdG l_3 i).root.length) ((rdG l_3 i).c)]), false⟩ :: Rs_4)) rfl ?_
        refine cd_as (v := .slice A_17 (n2 + 1) c_18) rfl ?_
        refine cd_y 10 rfl (by kernel_rfl) rfl (y_assign rfl) ?_
        refine cd_y 11 rfl (by kernel_rfl) rfl (y_assign rfl) ?_
        refine cd_nil (by kernel_rfl) ?_
        refine w_reg ?_
        refine wr_y rfl (y_addI rfl rfl (by omega)) ?_
        refine wr_y rfl (y_move rfl) ?_
        refine wr_nil ?_
        exact ⟨i + 1, A_13, n1 + 1, c_14, vals ++ ([Value.slice ((rdG l_3 i).A) ((rdG l_3 i).root.length) ((rdG l_3 i).c)]), (ls ++ [(rdG l_3 i).root]), A_17, n2 + 1, c_18, ts ++ ([(rdG l_3 i).times]), ⟨(by omega), (by omega), (by rw [List.length_append, hn1]; rfl), (by rw [List.length_append, hn2]; rfl), (hsl.push rfl (hrg_5 _ (rdG_mem hi0 (by omega))).2), (by rw [rt_step RC.root hi0 (by omega), ← hls]), (by rw [rt_step RC.times hi0 (by omega), ← hts])⟩, (by omega), (Sub.cons rfl (Sub.cons rfl (Sub.cons rfl (Sub.cons rfl (Sub.cons rfl Sub.nil))))), fun _ h => h.selR (F := [_, _, _, _, _, _]) (F' := [_, _, _]) [3, 4, 5] (by decide) rfl⟩
      ·
        refine c1_a 8 rfl rfl (a_litI .i64 [(rdG l_3 i).times] Tryz.underlying24 zs3 rfl rfl rfl) ?_
        rintro _ _ ⟨g_20, rfl, rfl⟩
        refine ⟨fun _ h => h.selR (F := [_, _, _, _, _, _]) (F' := [_]) [2] (by decide) rfl, ?_⟩
        refine cd_one 4 (by kernel_rfl) ?_
        refine c1_a 4 rfl rfl (a_append 5 rfl rfl Tryz.underlying22 zb23 rfl rfl rfl rfl rfl (rdr 1 rfl) (by simp [Value.oneCell']) (by dsimp only; omega)) ?_
        rintro _ _ ⟨A_21, c_22, rfl, rfl⟩
        refine ⟨fun _ h => h.selR (F := [_, _, _, _, _, _]) (F' := [_]) [2] (by decide) rfl, ?_⟩
        refine cd_rows (R1 := (⟨3, 1, (some ⟨g_20, 0, none⟩), 1, 1, ints .i64 ([(rdG l_3 i).times]), false⟩ :: ⟨23, 1, (some ⟨g_12, 0, none⟩), 1, 1, [Value.slice ((rdG l_3 i).A) ((rdG l_3 i).root.length) ((rdG l_3 i).c)], false⟩ :: ⟨73, 2, (some ⟨g_10, 0, none⟩), 1, 1, [.slice ((rdG l_3 i).A) ((rdG l_3 i).root.length) ((rdG l_3 i).c), .int .i64 ((rdG l_3 i).times)], false⟩ :: ⟨73, 2, A_1, l_3.length, c_2, rgs l_3, false⟩ :: ⟨3, 1, A2, n2, c2, ints .i64 ts, false⟩ :: ⟨23, 1, A_21, (n1 + 1), c_22, vals ++ ([Value.slice ((rdG l_3 i).A) ((rdG l_3 i).root.length) ((rdG l_3 i).c)]), false⟩ :: Rs_4)) rfl ?_
        refine cd_as (v := .slice A_21 (n1 + 1) c_22) rfl ?_
        refine cd_one 9 (by kernel_rfl) ?_
        refine c1_a 9 rfl rfl (a_appendI 4 rfl Tryz.underlying24 zb3 rfl rfl rfl (rdr 0 rfl) (by omega)) ?_
        rintro _ _ ⟨A_23, c_24, rfl, rfl⟩
        refine ⟨fun _ h => h.selR (F := [_, _, _, _, _, _]) (F' := [_]) [2] (by decide) rfl, ?_⟩
        refine cd_rows (R1 := (⟨3, 1, (some ⟨g_20, 0, none⟩), 1, 1, ints .i64 ([(rdG l_3 i).times]), false⟩ :: ⟨23, 1, (some ⟨g_12, 0, none⟩), 1, 1, [Value.slice ((rdG l_3 i).A) ((rdG l_3 i).root.length) ((rdG l_3 i).c)], false⟩ :: ⟨73, 2, (some ⟨g_10, 0, none⟩), 1, 1, [.slice ((rdG l_3 i).A) ((rdG l_3 i).root.length) ((rdG l_3 i).c), .int .i64 ((rdG l_3 i).times)], false⟩ :: ⟨73, 2, A_1, l_3.length, c_2, rgs l_3, false⟩ :: ⟨3, 1, A_23, (n2 + 1), c_24, ints .i64 (ts ++ ([(rdG l_3 i).times])), false⟩ :: ⟨23, 1, A_21, (n1 + 1), c_22, vals ++ ([Value.slice ((rdG l_3 i).A) ((rdG l_3 i).root.length) ((rdG l_3 i).c)]), false⟩ :: Rs_4)) rfl ?_
        refine cd_as (v := .slice A_23 (n2 + 1) c_24) rfl ?_
        refine cd_y 10 rfl (by kernel_rfl) rfl (y_assign rfl) ?_
        refine cd_y 11 rfl (by kernel_rfl) rfl (y_assign rfl) ?_
        refine cd_nil (by kernel_rfl) ?_
        refine w_reg ?_
        refine wr_y rfl (y_addI rfl rfl (by omega)) ?_
        refine wr_y rfl (y_move rfl) ?_
        refine wr_nil ?_
        exact ⟨i + 1, A_21, n1 + 1, c_22, vals ++ ([Value.slice ((rdG l_3 i).A) ((rdG l_3 i).root.length) ((rdG l_3 i).c)]), (ls ++ [(rdG l_3 i).root]), A_23, n2 + 1, c_24, ts ++ ([(rdG l_3 i).times]), ⟨(by omega), (by omega), (by rw [List.length_append, hn1]; rfl), (by rw [List.length_append, hn2]; rfl), (hsl.push rfl (hrg_5 _ (rdG_mem hi0 (by omega))).2), (by rw [rt_step RC.root hi0 (by omega), ← hls]), (by rw [rt_step RC.times hi0 (by omega), ← hts])⟩, (by omega), (Sub.cons rfl (Sub.cons rfl (Sub.cons rfl (Sub.cons rfl (Sub.cons rfl Sub.nil))))), fun _ h => h.selR (F := [_, _, _, _, _, _]) (F' := [_, _, _]) [3, 4, 5] (by decide) rfl⟩
    ·
      refine c1_a 8 rfl rfl (a_litI .i64 [(rdG l_3 i).times] Tryz.underlying24 zs3 rfl rfl rfl) ?_
      rintro _ _ ⟨g_26, rfl, rfl⟩
      refine ⟨fun _ h => h.selR (F := [_, _, _, _, _]) (F' := [_]) [1] (by decide) rfl, ?_⟩
      refine cd_one 3 (by kernel_rfl) ?_
      refine c1_a 3 rfl rfl (a_lit [Value.slice ((rdG l_3 i).A) ((rdG l_3 i).root.length) ((rdG l_3 i).c)] Tryz.underlying22 zs23 rfl rfl rfl rfl) ?_
      rintro _ _ ⟨g_28, rfl, rfl⟩
      refine ⟨fun _ h => h.selR (F := [_, _, _, _, _, _]) (F' := [_]) [2] (by decide) rfl, ?_⟩
      refine cd_one 4 (by kernel_rfl) ?_
      refine c1_a 4 rfl rfl (a_append 5 rfl rfl Tryz.underlying22 zb23 rfl rfl rfl rfl rfl (rdr 0 rfl) (by simp [Value.oneCell']) (by dsimp only; omega)) ?_
      rintro _ _ ⟨A_29, c_30, rfl, rfl⟩
      refine ⟨fun _ h => h.selR (F := [_, _, _, _, _, _]) (F' := [_]) [2] (by decide) rfl, ?_⟩
      refine cd_rows (R1 := (⟨23, 1, (some ⟨g_28, 0, none⟩), 1, 1, [Value.slice ((rdG l_3 i).A) ((rdG l_3 i).root.length) ((rdG l_3 i).c)], false⟩ :: ⟨3, 1, (some ⟨g_26, 0, none⟩), 1, 1, ints .i64 ([(rdG l_3 i).times]), false⟩ :: ⟨73, 2, (some ⟨g_10, 0, none⟩), 1, 1, [.slice ((rdG l_3 i).A) ((rdG l_3 i).root.length) ((rdG l_3 i).c), .int .i64 ((rdG l_3 i).times)], false⟩ :: ⟨73, 2, A_1, l_3.length, c_2, rgs l_3, false⟩ :: ⟨3, 1, A2, n2, c2, ints .i64 ts, false⟩ :: ⟨23, 1, A_29, (n1 + 1), c_30, vals ++ ([Value.slice ((rdG l_3 i).A) ((rdG l_3 i).root.length) ((rdG l_3 i).c)]), false⟩ :: Rs_4)) rfl ?_
      refine cd_as (v := .slice A_29 (n1 + 1) c_30) rfl ?_
      refine cd_one 9 (by kernel_rfl) ?_
      refine c1_a 9 rfl rfl (a_appendI 4 rfl Tryz.underlying24 zb3 rfl rfl rfl (rdr 1 rfl) (by omega)) ?_
      rintro _ _ ⟨A_31, c_32, rfl, rfl⟩
      refine ⟨fun _ h => h.selR (F := [_, _, _, _, _, _]) (F' := [_]) [2] (by decide) rfl, ?_⟩
      refine cd_rows (R1 := (⟨23, 1, (some ⟨g_28, 0, none⟩), 1, 1, [Value.slice ((rdG l_3 i).A) ((rdG l_3 i).root.length) ((rdG l_3 i).c)], false⟩ :: ⟨3, 1, (some ⟨g_26, 0, none⟩), 1, 1, ints .i64 ([(rdG l_3 i).times]), false⟩ :: ⟨73, 2, (some ⟨g_10, 0, none⟩), 1, 1, [.slice ((rdG l_3 i).A) ((rdG l_3 i).root.length) ((rdG l_3 i).c), .int .i64 ((rdG l_3 i).times)], false⟩ :: ⟨73, 2, A_1, l_3.length, c_2, rgs l_3, false⟩ :: ⟨3, 1, A_31, (n2 + 1), c_32, ints .i64 (ts ++ ([(rdG l_3 i).times])), false⟩ :: ⟨23, 1, A_29, (n1 + 1), c_30, vals ++ ([Value.slice ((rdG l_3 i).A) ((rdG l_3 i).root.length) ((rdG l_3 i).c)]), false⟩ :: Rs_4)) rfl ?_
      refine cd_as (v := .slice A_31 (n2 + 1) c_32) rfl ?_
      refine cd_y 10 rfl (by kernel_rfl) rfl (y_assign rfl) ?_
      refine cd_y 11 rfl (by kernel_rfl) rfl (y_assign rfl) ?_
      refine cd_nil (by kernel_rfl) ?_
      refine w_reg ?_
      refine wr_y rfl (y_addI rfl rfl (by omega)) ?_
      refine wr_y rfl (y_move rfl) ?_
      refine wr_nil ?_
      exact ⟨i + 1, A_29, n1 + 1, c_30, vals ++ ([Value.slice ((rdG l_3 i).A) ((rdG l_3 i).root.length) ((rdG l_3 i).c)]), (ls ++ [(rdG l_3 i).root]), A_31, n2 + 1, c_32, ts ++ ([(rdG l_3 i).times]), ⟨(by omega), (by omega), (by rw [List.length_append, hn1]; rfl), (by rw [List.length_append, hn2]; rfl), (hsl.push rfl (hrg_5 _ (rdG_mem hi0 (by omega))).2), (by rw [rt_step RC.root hi0 (by omega), ← hls]), (by rw [rt_step RC.times hi0 (by omega), ← hts])⟩, (by omega), (Sub.cons rfl (Sub.cons rfl (Sub.cons rfl (Sub.cons rfl (Sub.cons rfl Sub.nil))))), fun _ h => h.selR (F := [_, _, _, _, _, _]) (F' := [_, _, _]) [3, 4, 5] (by decide) rfl⟩
  ·
    refine w_exit ?_
    refine w_seq ?_
    refine w_reg ?_
    refine wr_y rfl (y_move rfl) ?_
    refine wr_y rfl (y_move rfl) ?_
    refine wr_y rfl (y_assign rfl) ?_
    refine wr_y rfl (y_assign rfl) ?_
    refine wr_nil ?_
    refine w_retR (R1 := (⟨23, 1, A1, n1, c1, vals, false⟩ :: ⟨3, 1, A2, n2, c2, ints .i64 ts, false⟩ :: Rs_4)) (fun _ h => h.selR (F := [_, _, _]) (F' := [_, _]) [2, 1] (by decide) rfl) ?_
    refine ⟨_, _, rfl, rfl, ?_⟩
    have hrd := rt_done hlr_6 (show (l_3.length : Int) ≤ i by omega)
    obtain rfl : ls = (ringS ws).map Prod.fst := hls.trans hrd.1
    obtain rfl : ts = (ringS ws).map Prod.snd := hts.trans hrd.2
    subst hn1; subst hn2
    exact ⟨_, _, _, _, vals, _, rfl, hsl, rfl⟩

set_option maxRecDepth 100000 in
theorem equalB_ct {w : World} {A_u : Option Addr} {n_u c_u : Nat} {u : List Int} {A_t : Option Addr} {n_t c_t : Nat} {t : List Int} (h_u : Rd w A_u n_u c_u 1 (ints .u8 u)) (h_t : Rd w A_t n_t c_t 1 (ints .u8 t)) (bh_u : ByteL u) (bh_t : ByteL t) :
    Ct Tryz.prog 22 #[.slice A_u n_u c_u, .slice A_t n_t c_t] w.heap.size w [] (fun v R' => v = .bool (decide (u = t))) := by
  obtain rfl := h_u.lenI
  obtain rfl := h_t.lenI
  refine fn1 Tryz.func22 rfl rfl rfl ?_
  have m_u := h_u.max
  have m_t := h_t.max
  refine w_seq ?_
  refine w_reg ?_
  refine wr_y rfl (y_assign rfl) ?_
  refine wr_nil ?_
  refine w_seq ?_
  refine w_reg ?_
  refine wr_y rfl (y_move rfl) ?_
  refine wr_y rfl (y_toStr Tryz.underlying23 Tryz.underlying5 Tryz.underlying9 rfl (h_u.c _)) ?_
  refine wr_y rfl (y_move rfl) ?_
  refine wr_y rfl (y_toStr Tryz.underlying23 Tryz.underlying5 Tryz.underlying9 rfl (h_t.c _)) ?_
  refine wr_y rfl (y_eqL rfl rfl bh_u bh_t) ?_
  refine wr_y rfl (y_assign rfl) ?_
  refine wr_nil ?_
  refine w_ret ?_
  refine ⟨_, rfl, ?_⟩
  rfl

set_option maxRecDepth 100000 in
set_option maxHeartbeats 600000 in
theorem rows9_ct {w : World} {A_a : Option Addr} {n_a c_a : Nat} {vals_a : List Value} {a : List (List Int)} {A_b : Option Addr} {n_b c_b : Nat} {vals_b : List Value} {b : List (List Int)} (h_a : Rd w A_a n_a c_a 1 vals_a) (s_a : SlW .u8 w vals_a a) (h_b : Rd w A_b n_b c_b 1 vals_b) (s_b : SlW .u8 w vals_b b) (hN : a.length ≤ 1000000) :
    Ct Tryz.prog 9 #[.slice A_a n_a c_a, .slice A_b n_b c_b] w.heap.size w [] (fun v R' => v = .bool (decide (a = b))) := by
  obtain rfl : n_a = a.length := by have := h_a.len; have := s_a.1; omega
  obtain rfl : n_b = b.length := by have := h_b.len; have := s_b.1; omega
  refine fn1 Tryz.func9 rfl rfl rfl ?_
  have m_a := h_a.max
  have m_b := h_b.max
  refine w_seq ?_
  refine w_reg ?_
  refine wr_y rfl (y_assign rfl) ?_
  refine wr_nil ?_
  refine w_seq ?_
  refine w_seq ?_
  refine w_reg ?_
  refine wr_y rfl (y_move rfl) ?_
  refine wr_y rfl (y_len Tryz.underlying22 rfl) ?_
  refine wr_y rfl (y_move rfl) ?_
  refine wr_y rfl (y_len Tryz.underlying22 rfl) ?_
  refine wr_y rfl (y_ne rfl rfl) ?_
  refine wr_nil ?_
  refine w_if rfl (fun hc1 => ?_) (fun hc1 => ?_)
  ·
    refine w_seq ?_
    refine w_reg ?_
    refine wr_y rfl (y_assign rfl) ?_
    refine wr_nil ?_
    refine w_ret ?_
    refine ⟨_, rfl, ?_⟩
    exact congrArg Value.bool (decide_eq_false (fun e => by rw [e] at hc1; exact hc1 rfl)).symm
  ·
    refine w_skip ?_
    refine w_seq ?_
    refine w_seq ?_
    refine w_reg ?_
    refine wr_y rfl (y_assign rfl) ?_
    refine wr_nil ?_
    refine w_block ?_
    refine w_loop1 (fun (k : Int) => [(0, .slice A_a a.length c_a), (1, .slice A_b b.length c_b), (5, .int .i64 k)]) (fun (k : Int) => []) (fun (k : Int) => (0 ≤ k) ∧ (k ≤ a.length) ∧ (a.take k.toNat = b.take k.toNat)) (fun (k : Int) => (a.length - k).toNat) ?_ ?_
    ·
      exact ⟨0, ⟨(by omega), (by omega), (rfl)⟩, (Sub.cons rfl (Sub.cons rfl (Sub.cons rfl Sub.nil))), fun _ h => h⟩
    intro k ⟨hk0, hk1, hq⟩
    refine w_seq ?_
    refine w_seq ?_
    refine w_reg ?_
    refine wr_y rfl (y_move rfl) ?_
    refine wr_y rfl (y_move rfl) ?_
    refine wr_y rfl (y_len Tryz.underlying22 rfl) ?_
    refine wr_y rfl (y_lt rfl rfl) ?_
    refine wr_nil ?_
    refine w_if rfl (fun hc2 => ?_) (fun hc2 => ?_)
    ·
      refine w_skip ?_
      refine w_seq ?_
      refine w_block ?_
      refine w_seq ?_
      refine w_regd mixed ?_
      refine wd_y 0 rfl (by kernel_rfl) rfl (y_move rfl) ?_
      refine wd_y 1 rfl (by kernel_rfl) rfl (y_move rfl) ?_
      refine wd_y 2 rfl (by kernel_rfl) rfl (y_index1 Tryz.underlying22 sz23 rfl rfl (h_a.c _) (by omega) (by omega)) ?_
      refine s_a.elim (i := k) (by omega) (by omega) (fun A_1 c_2 hv_3 hr_4 hb_5 mhr_4 => ?_)
      refine wd_y 3 rfl (by kernel_rfl) rfl (y_ld Tryz.underlying23 rfl rfl rfl (h_a.c _) hv_3) ?_
      refine wd_y 4 rfl (by kernel_rfl) rfl (y_toStr Tryz.underlying23 Tryz.underlying5 Tryz.underlying9 rfl (hr_4.c _)) ?_
      refine wd_y 5 rfl (by kernel_rfl) rfl (y_move rfl) ?_
      refine wd_y 6 rfl (by kernel_rfl) rfl (y_move rfl) ?_
      refine wd_y 7 rfl (by kernel_rfl) rfl (y_index1 Tryz.underlying22 sz23 rfl rfl (h_b.c _) (by omega) (by omega)) ?_
      refine s_b.elim (i := k) (by omega) (by omega) (fun A_6 c_7 hv_8 hr_9 hb_10 mhr_9 => ?_)
      refine wd_y 8 rfl (by kernel_rfl) rfl (y_ld Tryz.underlying23 rfl rfl rfl (h_b.c _) hv_8) ?_
      refine wd_y 9 rfl (by kernel_rfl) rfl (y_toStr Tryz.underlying23 Tryz.underlying5 Tryz.underlying9 rfl (hr_9.c _)) ?_
      refine wd_y 10 rfl (by kernel_rfl) rfl (y_neL rfl rfl (byteL_wf hb_5) (byteL_wf hb_10)) ?_
      refine wd_nil (by kernel_rfl) ?_
      refine w_if rfl (fun hc3 => ?_) (fun hc3 => ?_)
      ·
        refine w_seq ?_
        refine w_reg ?_
        refine wr_y rfl (y_assign rfl) ?_
        refine wr_nil ?_
        refine w_ret ?_
        refine ⟨_, rfl, ?_⟩
        exact congrArg Value.bool (decide_eq_false (fun e => by subst e; exact hc3 rfl)).symm
      ·
        refine w_skip ?_
        refine w_reg ?_
        refine wr_y rfl (y_move rfl) ?_
        refine wr_y rfl (y_addI rfl rfl (by omega)) ?_
        refine wr_y rfl (y_assign rfl) ?_
        refine wr_nil ?_
        exact ⟨k + 1, ⟨(by omega), (by omega), (by rw [take_succ_rdl2 hk0 (by omega), take_succ_rdl2 hk0 (by omega), hq]; exact congrArg (fun z => List.take k.toNat b ++ [z]) (Decidable.not_not.1 (by assumption)))⟩, (by omega), (Sub.cons rfl (Sub.cons rfl (Sub.cons rfl Sub.nil))), fun _ h => h⟩
    ·
      refine w_exit ?_
      refine w_seq ?_
      refine w_reg ?_
      refine wr_y rfl (y_assign rfl) ?_
      refine wr_nil ?_
      refine w_ret ?_
      refine ⟨_, rfl, ?_⟩
      exact congrArg Value.bool (decide_eq_true (by rw [List.take_of_length_le (by omega), List.take_of_length_le (by omega)] at hq; exact hq)).symm

end Go.Proofs.YtdfcnalkdlifiaaGreat

/-! ## F2 -/
namespace Go.Proofs.YtdfcnalkdlifiaaGreat
open Go Go.Eng Go.Pure
set_option linter.unusedVariables false
set_option maxRecDepth 100000 in
theorem least5_ct {w : World} {A_u : Option Addr} {n_u c_u : Nat} {u : List Int} (h_u : Rd w A_u n_u c_u 1 (ints .u8 u)) (bh_u : ByteL u) (hne : 0 < u.length) (hlu : u.length ≤ 1000000) :
    Ct Tryz.prog 75 #[.slice A_u n_u c_u] w.heap.size w [] (fun v R' => v = .int .i64 (lp u)) := by
  obtain rfl := h_u.lenI
  refine fn1 Tryz.func75 rfl rfl rfl ?_
  have m_u := h_u.max
  refine w_seq ?_
  refine w_reg ?_
  refine wr_y rfl (y_assign rfl) ?_
  refine wr_nil ?_
  refine w_seq ?_
  refine w_seq ?_
  refine w_reg ?_
  refine wr_y rfl (y_assign rfl) ?_
  refine wr_nil ?_
  refine w_block ?_
  refine w_loop1 (fun (p : Int) => [(0, .slice A_u u.length c_u), (3, .int .i64 p)]) (fun (p : Int) => []) (fun (p : Int) => (1 ≤ p) ∧ (p ≤ u.length + 1) ∧ (lp u = lpF u ((u.length : Int) + 1 - p).toNat p)) (fun (p : Int) => ((u.length : Int) + 1 - p).toNat) ?_ ?_
  ·
    exact ⟨1, ⟨(by omega), (by omega), (by unfold lp; congr 1; omega)⟩, (Sub.cons rfl (Sub.cons rfl Sub.nil)), fun _ h => h⟩
  intro p ⟨hp1, hp2, hl⟩
  refine w_seq ?_
  refine w_seq ?_
  refine w_reg ?_
  refine wr_y rfl (y_move rfl) ?_
  refine wr_y rfl (y_move rfl) ?_
  refine wr_y rfl (y_len Tryz.underlying23 rfl) ?_
  refine wr_y rfl (y_le rfl rfl) ?_
  refine wr_nil ?_
  refine w_if rfl (fun hc1 => ?_) (fun hc1 => ?_)
  ·
    refine w_skip ?_
    refine w_seq ?_
    refine w_block ?_
    refine w_seq ?_
    refine w_regd mixed ?_
    refine wd_y 0 rfl (by kernel_rfl) rfl (y_move rfl) ?_
    refine wd_y 1 rfl (by kernel_rfl) rfl (y_move rfl) ?_
    refine wd_y 2 rfl (by kernel_rfl) rfl (y_sliceFrom Tryz.underlying23 sz5 rfl rfl (by omega) (by omega)) ?_
    refine wd_y 3 rfl (by kernel_rfl) rfl (y_toStr Tryz.underlying23 Tryz.underlying5 Tryz.underlying9 rfl (RdC.fromI (h_u.c _) (by omega))) ?_
    refine wd_y 4 rfl (by kernel_rfl) rfl (y_move rfl) ?_
    refine wd_y 5 rfl (by kernel_rfl) rfl (y_move rfl) ?_
    refine wd_y 6 rfl (by kernel_rfl) rfl (y_len Tryz.underlying23 rfl) ?_
    refine wd_y 7 rfl (by kernel_rfl) rfl (y_move rfl) ?_
    refine wd_y 8 rfl (by kernel_rfl) rfl (y_subI rfl rfl (by omega)) ?_
    refine wd_y 9 rfl (by kernel_rfl) rfl (y_sliceTo Tryz.underlying23 sz5 rfl rfl (h_u.c _) (by omega) (by omega)) ?_
    refine wd_y 10 rfl (by kernel_rfl) rfl (y_toStr Tryz.underlying23 Tryz.underlying5 Tryz.underlying9 rfl (RdC.toI (h_u.c _) (by omega))) ?_
    refine wd_y 11 rfl (by kernel_rfl) rfl (y_eqL rfl rfl (ByteL.drop bh_u _) (ByteL.take bh_u _)) ?_
    refine wd_nil (by kernel_rfl) ?_
    refine w_if rfl (fun hc2 => ?_) (fun hc2 => ?_)
    ·
      refine w_seq ?_
      refine w_reg ?_
      refine wr_y rfl (y_move rfl) ?_
      refine wr_y rfl (y_assign rfl) ?_
      refine wr_nil ?_
      refine w_ret ?_
      refine ⟨_, rfl, ?_⟩
      exact congrArg (Value.int .i64) (by rw [hl, lpF_hit (by omega) (by assumption)])
    ·
      refine w_skip ?_
      refine w_reg ?_
      refine wr_y rfl (y_move rfl) ?_
      refine wr_y rfl (y_addI rfl rfl (by omega)) ?_
      refine wr_y rfl (y_assign rfl) ?_
      refine wr_nil ?_
      exact ⟨p + 1, ⟨(by omega), (by omega), (by rw [hl, lpF_go (by omega) (by assumption)]; congr 1; omega)⟩, (by omega), (Sub.cons rfl (Sub.cons rfl Sub.nil)), fun _ h => h⟩
  ·
    refine w_exit ?_
    refine w_seq ?_
    refine w_reg ?_
    refine wr_y rfl (y_assign rfl) ?_
    refine wr_nil ?_
    refine w_ret ?_
    refine ⟨_, rfl, ?_⟩
    have := lp_range hne
    have e0 : ((u.length : Int) + 1 - p).toNat = 0 := by omega
    rw [e0] at hl
    unfold lpF at hl
    omega

set_option maxRecDepth 100000 in
theorem root5_ct {w : World} {A_u : Option Addr} {n_u c_u : Nat} {u : List Int} (h_u : Rd w A_u n_u c_u 1 (ints .u8 u)) (bh_u : ByteL u) (hne : 0 < u.length) (hlu : u.length ≤ 1000000) :
    Ct Tryz.prog 46 #[.slice A_u n_u c_u] w.heap.size w [] (fun v R' => v = .tuple #[.slice A_u (rl u).toNat c_u, .int .i64 ((u.length : Int) / rl u)]) := by
  obtain rfl := h_u.lenI
  refine fn2 Tryz.func46 rfl rfl rfl ?_
  have m_u := h_u.max
  have hlp := lp_range hne
  refine w_seq ?_
  refine w_reg ?_
  refine wr_y rfl (y_assign rfl) ?_
  refine wr_y rfl (y_assign rfl) ?_
  refine wr_nil ?_
  refine w_seq ?_
  refine w_reg ?_
  refine wr_y rfl (y_move rfl) ?_
  refine wr_a rfl (a_callF en75 rfl (Ct.quiet (fun w hw => least5_ct ((h_u.c _) w hw) (by first | assumption | omega | decide) (by first | assumption | omega | decide) (by first | assumption | omega | decide)))) ?_
  rintro _ _ ⟨rfl, rfl⟩
  refine wr_y rfl (y_assign rfl) ?_
  refine wr_nil ?_
  refine w_seq ?_
  refine w_seq ?_
  refine w_reg ?_
  refine wr_y rfl (y_move rfl) ?_
  refine wr_y rfl (y_eq rfl rfl) ?_
  refine wr_nil ?_
  refine w_if rfl (fun hc1 => ?_) (fun hc1 => ?_)
  ·
    refine w_seq ?_
    refine w_reg ?_
    refine wr_y rfl (y_assign rfl) ?_
    refine wr_y rfl (y_assign rfl) ?_
    refine wr_nil ?_
    refine w_ret ?_
    refine ⟨_, _, rfl, rfl, ?_⟩
    omega
  ·
    refine w_skip ?_
    refine w_seq ?_
    refine w_seq ?_
    refine w_reg ?_
    refine wr_y rfl (y_move rfl) ?_
    refine wr_y rfl (y_len Tryz.underlying23 rfl) ?_
    refine wr_y rfl (y_move rfl) ?_
    refine wr_y rfl (y_rem rfl rfl (by omega) (by omega)) ?_
    refine wr_y rfl (y_ne rfl rfl) ?_
    refine wr_nil ?_
    refine w_if rfl (fun hc2 => ?_) (fun hc2 => ?_)
    ·
      refine w_reg ?_
      refine wr_y rfl (y_move rfl) ?_
      refine wr_y rfl (y_len Tryz.underlying23 rfl) ?_
      refine wr_y rfl (y_assign rfl) ?_
      refine wr_nil ?_
      refine w_seq ?_
      refine w_regd mixed ?_
      refine wd_y 0 rfl (by kernel_rfl) rfl (y_move rfl) ?_
      refine wd_y 1 rfl (by kernel_rfl) rfl (y_move rfl) ?_
      refine wd_y 2 rfl (by kernel_rfl) rfl (y_sliceTo Tryz.underlying23 sz5 rfl rfl (h_u.c _) (by omega) (by omega)) ?_
      refine wd_y 3 rfl (by kernel_rfl) rfl (y_move rfl) ?_
      refine wd_y 4 rfl (by kernel_rfl) rfl (y_len Tryz.underlying23 rfl) ?_
      refine wd_y 5 rfl (by kernel_rfl) rfl (y_move rfl) ?_
      refine wd_y 6 rfl (by kernel_rfl) rfl (y_quoI rfl rfl (by omega) (by omega) (by omega)) ?_
      refine wd_y 7 rfl (by kernel_rfl) rfl (y_assign rfl) ?_
      refine wd_y 8 rfl (by kernel_rfl) rfl (y_assign rfl) ?_
      refine wd_nil (by kernel_rfl) ?_
      refine w_ret ?_
      refine ⟨_, _, rfl, rfl, ?_⟩
      have e : rl u = u.length := by unfold rl; rw [if_pos (by assumption)]
      rw [e]
    ·
      refine w_skip ?_
      refine w_seq ?_
      refine w_regd mixed ?_
      refine wd_y 0 rfl (by kernel_rfl) rfl (y_move rfl) ?_
      refine wd_y 1 rfl (by kernel_rfl) rfl (y_move rfl) ?_
      refine wd_y 2 rfl (by kernel_rfl) rfl (y_sliceTo Tryz.underlying23 sz5 rfl rfl (h_u.c _) (by omega) (by omega)) ?_
      refine wd_y 3 rfl (by kernel_rfl) rfl (y_move rfl) ?_
      refine wd_y 4 rfl (by kernel_rfl) rfl (y_len Tryz.underlying23 rfl) ?_
      refine wd_y 5 rfl (by kernel_rfl) rfl (y_move rfl) ?_
      refine wd_y 6 rfl (by kernel_rfl) rfl (y_quoI rfl rfl (by omega) (by omega) (by omega)) ?_
      refine wd_y 7 rfl (by kernel_rfl) rfl (y_assign rfl) ?_
      refine wd_y 8 rfl (by kernel_rfl) rfl (y_assign rfl) ?_
      refine wd_nil (by kernel_rfl) ?_
      refine w_ret ?_
      refine ⟨_, _, rfl, rfl, ?_⟩
      have e : rl u = lp u := by unfold rl; rw [if_neg (by assumption)]
      rw [e]

end Go.Proofs.YtdfcnalkdlifiaaGreat

/-! ## N5 -/
namespace Go.Proofs.YtdfcnalkdlifiaaGreat
open Go Go.Eng Go.Pure
set_option linter.unusedVariables false
theorem kcmp_neg {a b : RT} : kcmp a b < 0 ↔ cmpL a.1 b.1 < 0 ∨ cmpL a.1 b.1 = 0 ∧ a.2 < b.2 := by
  unfold kcmp
  have h2 : cmpI a.2 b.2 < 0 ↔ a.2 < b.2 := by unfold cmpI; split <;> (try split) <;> omega
  split
  · omega
  · rw [h2]; omega
def kw (c : List Int) : RT := (rootW c, timesW c)
theorem kw_lw (u : List Int) : kw (lw u) = ringOf u := rfl
structure CI (ws : List (List Int)) (ls : List (List Int)) : Prop where
  perm : (ls.map kw).Perm (ringsOf ws)
  sorted : ls.Pairwise fun a b => kcmp (kw a) (kw b) ≤ 0
theorem CI.nil : CI [] [] := ⟨.refl _, .nil⟩
theorem CI.skip {ws ls : List (List Int)} {w : List Int} (h : CI ws ls) (hw : w.length = 0) : CI (ws ++ [w]) ls := ⟨by
  have e : ringsOf [w] = [] := by unfold ringsOf; simp [hw]
  rw [ringsOf_append, e, List.append_nil]
  exact h.perm, h.sorted⟩
theorem CI.put {ws ls : List (List Int)} {w : List Int} {j : Int} (h : CI ws ls) (hw : 0 < w.length) (h0 : 0 ≤ j) (h1 : j ≤ ls.length) (hup : ∀ q : Int, j ≤ q → q < ls.length → kcmp (kw (lw w)) (kw (rdl ls q)) < 0) (hlo : ¬ (0 < j ∧ kcmp (kw (lw w)) (kw (rdl ls (j - 1))) < 0)) : CI (ws ++ [w]) (ls.take j.toNat ++ [lw w] ++ ls.drop j.toNat) := by
  refine ⟨?_, ?_⟩
  · rw [ringsOf_append]
    have e : ringsOf [w] = [ringOf w] := by unfold ringsOf; simp [hw]
    rw [e, List.map_append, List.map_append]
    refine List.Perm.trans ?_ (List.Perm.append_right [ringOf w] h.perm)
    rw [List.append_assoc]
    refine (List.Perm.append_left _ List.perm_append_comm).trans ?_
    rw [← List.append_assoc, ← List.map_append, List.take_append_drop]
    exact .refl _
  · have hs := h.sorted
    have hs2 := hs
    rw [← List.take_append_drop j.toNat ls, List.pairwise_append] at hs2
    obtain ⟨s1, s2, s3⟩ := hs2
    have hdn : ∀ b ∈ ls.drop j.toNat, kcmp (kw (lw w)) (kw b) < 0 := fun b hb => by
      obtain ⟨k, hk, e⟩ := List.mem_iff_getElem.1 hb
      rw [List.length_drop] at hk
      have := hup (j + k) (by omega) (by omega)
      have e2 : rdl ls (j + k) = b := by
        rw [← e, List.getElem_drop]
        unfold rdl
        rw [show (j + (k : Int)).toNat = j.toNat + k by omega, List.getD_eq_getElem?_getD, List.getElem?_eq_getElem (by omega)]
        rfl
      rwa [e2] at this
    have hlow : ∀ a ∈ ls.take j.toNat, kcmp (kw a) (kw (lw w)) ≤ 0 := fun a ha => by
      obtain ⟨k, hk, e⟩ := List.mem_iff_getElem.1 ha
      rw [List.length_take] at hk
      have hj : 0 < j := by omega
      have hl : kcmp (kw (rdl ls (j - 1))) (kw (lw w)) ≤ 0 := by
        rw [kcmp_anti (kw (lw w))]
        have := fun c => hlo ⟨hj, c⟩
        omega
      have e2 : rdl ls (j - 1) = ls[(j - 1).toNat]'(by omega) := by
        unfold rdl
        rw [List.getD_eq_getElem?_getD, List.getElem?_eq_getElem (by omega)]
        rfl
      rw [List.getElem_take] at e
      rcases Nat.lt_or_ge k (j - 1).toNat with g | g
      · have := List.pairwise_iff_getElem.1 hs k (j - 1).toNat (by omega) (by omega) g
        rw [e, ← e2] at this
        exact kcmp_le _ _ _ this hl
      · obtain rfl : k = (j - 1).toNat := by omega
        rw [← e, ← e2]
        exact hl
    rw [List.append_assoc, List.pairwise_append]
    refine ⟨s1, ?_, ?_⟩
    · rw [List.singleton_append, List.pairwise_cons]
      exact ⟨fun b hb => by have := hdn b hb; omega, s2⟩
    · intro a ha b hb
      rw [List.singleton_append, List.mem_cons] at hb
      rcases hb with rfl | hb
      · exact hlow a ha
      · exact s3 a ha b hb
theorem CI.done {ws ls : List (List Int)} (h : CI ws ls) (hp : ∀ c ∈ ls, 0 < c.length) : ls = canon ws := by
  have : ls.map kw = ringS ws := ringS_one h.perm (List.pairwise_map.2 h.sorted)
  unfold canon
  rw [← this, List.map_map]
  conv => lhs; rw [← List.map_id ls]
  refine List.map_congr_left fun c hc => ?_
  exact (unring_root (hp c hc)).symm
theorem roots_canon (ws : List (List Int)) : (canon ws).map rootW = (ringS ws).map Prod.fst ∧ (canon ws).map timesW = (ringS ws).map Prod.snd := by
  have : (canon ws).map kw = ringS ws := by
    unfold canon
    rw [List.map_map]
    conv => rhs; rw [← List.map_id (ringS ws)]
    refine List.map_congr_left fun r hr => ?_
    obtain ⟨w, _, hw, rfl⟩ := mem_ringS hr
    show kw (unring (ringOf w)) = ringOf w
    rw [unring_of hw, kw_lw]
  rw [← this, List.map_map, List.map_map]
  exact ⟨rfl, rfl⟩
set_option maxRecDepth 100000 in
theorem less9_ct {w : World} {A_u : Option Addr} {n_u c_u : Nat} {u : List Int} {A_t : Option Addr} {n_t c_t : Nat} {t : List Int} (h_u : Rd w A_u n_u c_u 1 (ints .u8 u)) (h_t : Rd w A_t n_t c_t 1 (ints .u8 t)) (bh_u : ByteL u) (bh_t : ByteL t) (hu : 0 < u.length ∧ u.length ≤ 1000000) (ht : 0 < t.length ∧ t.length ≤ 1000000) :
    Ct Tryz.prog 25 #[.slice A_u n_u c_u, .slice A_t n_t c_t] w.heap.size w [] (fun v R' => v = .bool (decide (kcmp (kw u) (kw t) < 0))) := by
  obtain rfl := h_u.lenI
  obtain rfl := h_t.lenI
  refine fn1 Tryz.func25 rfl rfl rfl ?_
  have m_u := h_u.max
  have m_t := h_t.max
  refine w_seq ?_
  refine w_reg ?_
  refine wr_y rfl (y_assign rfl) ?_
  refine wr_nil ?_
  refine w_seq ?_
  refine w_reg ?_
  refine wr_y rfl (y_move rfl) ?_
  refine wr_a rfl (a_callF en46 rfl (Ct.quiet (fun w hw => root5_ct ((h_u.c _) w hw) (by first | assumption | omega | decide) hu.1 hu.2))) ?_
  rintro _ _ ⟨rfl, rfl⟩
  have hr0 := rl_range (u := u) (by omega)
  refine wr_y rfl (y_move rfl) ?_
  refine wr_y rfl (y_extract rfl rfl) ?_
  refine wr_y rfl (y_extract rfl rfl) ?_
  refine wr_y rfl (y_assign rfl) ?_
  refine wr_y rfl (y_assign rfl) ?_
  refine wr_nil ?_
  refine w_seq ?_
  refine w_reg ?_
  refine wr_y rfl (y_move rfl) ?_
  refine wr_a rfl (a_callF en46 rfl (Ct.quiet (fun w hw => root5_ct ((h_t.c _) w hw) bh_t ht.1 ht.2))) ?_
  rintro _ _ ⟨rfl, rfl⟩
  have hr0 := rl_range (u := t) (by omega)
  refine wr_y rfl (y_move rfl) ?_
  refine wr_y rfl (y_extract rfl rfl) ?_
  refine wr_y rfl (y_extract rfl rfl) ?_
  refine wr_y rfl (y_assign rfl) ?_
  refine wr_y rfl (y_assign rfl) ?_
  refine wr_nil ?_
  refine w_seq ?_
  refine w_reg ?_
  refine wr_y rfl (y_move rfl) ?_
  refine wr_y rfl (y_move rfl) ?_
  refine wr_a rfl (a_callF en47 rfl (Ct.quiet (fun w hw => words4_ct ((RdC.toI (h_u.c _) (by omega)) w hw) ((RdC.toI (h_t.c _) (by omega)) w hw)))) ?_
  rintro _ _ ⟨rfl, rfl⟩
  refine wr_y rfl (y_assign rfl) ?_
  refine wr_nil ?_
  refine w_seq ?_
  refine w_reg ?_
  refine wr_y rfl (y_move rfl) ?_
  refine wr_y rfl (y_lt rfl rfl) ?_
  refine wr_y rfl (y_move rfl) ?_
  refine wr_mid 8 [(33, .bool (decide (((cmpL ((u).take (rl u).toNat) ((t).take (rl t).toNat)) < 0) ∨ (((cmpL ((u).take (rl u).toNat) ((t).take (rl t).toNat)) = 0) ∧ ((((u).length : Int) / rl u) < (((t).length : Int) / rl t))))))] [] ?_ ?_
  ·
    refine wr_case 25 rfl (fun hc1 => ?_) (fun hc1 => ?_)
    ·
      refine wr_no rfl rfl rfl rfl ?_
      refine wr_no rfl rfl rfl rfl ?_
      refine wr_no rfl rfl rfl rfl ?_
      refine wr_nou rfl rfl rfl ?_
      refine wr_nou rfl rfl rfl ?_
      refine wr_nou rfl rfl rfl ?_
      refine wr_no rfl rfl rfl rfl ?_
      refine wr_y rfl (y_pickT rfl rfl) ?_
      refine wr_nil ?_
      exact ⟨(Sub.to rfl (mb_t (by first | omega | exact ⟨fun h => ⟨(by assumption), h⟩, fun h => h.2⟩ | exact .inl (by assumption) | exact ⟨.inr, fun h => h.resolve_left (by assumption)⟩ | exact ⟨fun h => h.resolve_left (by assumption), .inr⟩ | simp [*])) Sub.nil), fun _ h => h⟩
    ·
      refine wr_yes rfl rfl ?_
      refine wr_y rfl (y_move rfl) ?_
      refine wr_yes rfl rfl ?_
      refine wr_y rfl (y_eq rfl rfl) ?_
      refine wr_yes rfl rfl ?_
      refine wr_y rfl (y_move rfl) ?_
      refine wr_mid 4 [(25, .bool false), (32, .bool (decide (((cmpL ((u).take (rl u).toNat) ((t).take (rl t).toNat)) = 0) ∧ ((((u).length : Int) / rl u) < (((t).length : Int) / rl t)))))] [] ?_ ?_
      ·
        refine wr_case 28 rfl (fun hc2 => ?_) (fun hc2 => ?_)
        ·
          refine wr_yes rfl rfl ?_
          refine wr_y rfl (y_move rfl) ?_
          refine wr_yes rfl rfl ?_
          refine wr_y rfl (y_move rfl) ?_
          refine wr_yes rfl rfl ?_
          refine wr_y rfl (y_lt rfl rfl) ?_
          refine wr_yes rfl rfl ?_
          refine wr_y rfl (y_pickT rfl rfl) ?_
          refine wr_nil ?_
          exact ⟨(Sub.cons rfl (Sub.to rfl (mb (by first | omega | exact ⟨fun h => ⟨(by assumption), h⟩, fun h => h.2⟩ | exact .inl (by assumption) | exact ⟨.inr, fun h => h.resolve_left (by assumption)⟩ | exact ⟨fun h => h.resolve_left (by assumption), .inr⟩ | simp [*])) Sub.nil)), fun _ h => h⟩
        ·
          refine wr_no rfl rfl rfl rfl ?_
          refine wr_no rfl rfl rfl rfl ?_
          refine wr_no rfl rfl rfl rfl ?_
          refine wr_yes rfl rfl ?_
          refine wr_y rfl (y_pickF rfl rfl) ?_
          refine wr_nil ?_
          exact ⟨(Sub.cons rfl (Sub.to rfl (mb_f (by first | omega | exact ⟨fun h => ⟨(by assumption), h⟩, fun h => h.2⟩ | exact .inl (by assumption) | exact ⟨.inr, fun h => h.resolve_left (by assumption)⟩ | exact ⟨fun h => h.resolve_left (by assumption), .inr⟩ | simp [*])) Sub.nil)), fun _ h => h⟩
      refine wr_y rfl (y_pickF rfl rfl) ?_
      refine wr_nil ?_
      exact ⟨(Sub.to rfl (mb (by first | omega | exact ⟨fun h => ⟨(by assumption), h⟩, fun h => h.2⟩ | exact .inl (by assumption) | exact ⟨.inr, fun h => h.resolve_left (by assumption)⟩ | exact ⟨fun h => h.resolve_left (by assumption), .inr⟩ | simp [*])) Sub.nil), fun _ h => h⟩
  refine wr_y rfl (y_assign rfl) ?_
  refine wr_nil ?_
  refine w_ret ?_
  refine ⟨_, rfl, ?_⟩
  exact congrArg Value.bool (decide_eq_decide.2 (kcmp_neg (a := kw u) (b := kw t)).symm)

theorem ins_ok {ls : List (List Int)} {w : List Int} {j : Nat} (h : ∀ c ∈ ls, ByteL c ∧ 0 < c.length ∧ c.length ≤ 8000) (hb : ByteL w) (hw : 0 < w.length ∧ w.length ≤ 8000) : ∀ c ∈ ls.take j ++ [w] ++ ls.drop j, ByteL c ∧ 0 < c.length ∧ c.length ≤ 8000 := fun c hc => by
  rcases List.mem_append.1 hc with hc | hc
  · rcases List.mem_append.1 hc with hc | hc
    · exact h c (List.mem_of_mem_take hc)
    · obtain rfl := List.mem_singleton.1 hc
      exact ⟨hb, hw⟩
  · exact h c (List.mem_of_mem_drop hc)
set_option maxRecDepth 100000 in
set_option maxHeartbeats 2000000 in
theorem canon9_ct {w : World} {A_ws : Option Addr} {n_ws c_ws : Nat} {vals_ws : List Value} {ws : List (List Int)} (h_ws : Rd w A_ws n_ws c_ws 1 vals_ws) (s_ws : SlW .u8 w vals_ws ws) (hN : (∀ w ∈ ws, w.length ≤ 8000) ∧ ws.length ≤ 100000) :
    Ct Tryz.prog 10 #[.slice A_ws n_ws c_ws] w.heap.size w [] (fun v R' => ∃ (A : Option Addr) (c : Nat) (vals : List Value) (Rs : List Row), v = .slice A vals.length c ∧ SlR .u8 Rs vals (canon ws) ∧ R' = ⟨23, 1, A, vals.length, c, vals, false⟩ :: Rs) := by
  obtain rfl : n_ws = ws.length := by have := h_ws.len; have := s_ws.1; omega
  refine fn1 Tryz.func10 rfl rfl rfl ?_
  have m_ws := h_ws.max
  have hob := s_ws.okB
  refine w_seq ?_
  refine w_reg ?_
  refine wr_y rfl (y_assign rfl) ?_
  refine wr_nil ?_
  refine w_seq ?_
  refine w_reg ?_
  refine wr_sub (R1 := (⟨23, 1, none, 0, 0, [], false⟩ :: [])) (Sub.refl _) (fun _ h => h.nil 23 1) ?_
  refine wr_y rfl (y_assign rfl) ?_
  refine wr_nil ?_
  refine w_seq ?_
  refine w_seq ?_
  refine w_reg ?_
  refine wr_y rfl (y_assign rfl) ?_
  refine wr_nil ?_
  refine w_block ?_
  refine w_loop7 (fun (i : Int) (A1 : Option Addr) (n1 : Nat) (c1 : Nat) (vals : List Value) (ls : List (List Int)) (Rs : List Row) => [(0, .slice A_ws ws.length c_ws), (3, .slice A1 n1 c1), (4, .int .i64 i)]) (fun (i : Int) (A1 : Option Addr) (n1 : Nat) (c1 : Nat) (vals : List Value) (ls : List (List Int)) (Rs : List Row) => (⟨23, 1, A1, n1, c1, vals, false⟩ :: Rs)) (fun (i : Int) (A1 : Option Addr) (n1 : Nat) (c1 : Nat) (vals : List Value) (ls : List (List Int)) (Rs : List Row) => (0 ≤ i) ∧ (i ≤ ws.length) ∧ (n1 = vals.length) ∧ (SlR .u8 Rs vals ls) ∧ (∀ c ∈ ls, ByteL c ∧ 0 < c.length ∧ c.length ≤ 8000) ∧ (CI (ws.take i.toNat) ls)) (fun (i : Int) (A1 : Option Addr) (n1 : Nat) (c1 : Nat) (vals : List Value) (ls : List (List Int)) (Rs : List Row) => (ws.length - i).toNat) ?_ ?_
  ·
    exact ⟨0, none, 0, 0, [], [], [], ⟨(by omega), (by omega), (rfl), (SlR.nilR _ _), (fun c hc => by cases hc), (CI.nil)⟩, (Sub.cons rfl (Sub.cons rfl (Sub.cons rfl Sub.nil))), fun _ h => h⟩
  intro i A1 n1 c1 vals ls Rs ⟨hi0, hi1, hn1, hsl, hok, hci⟩
  have hsn := hsl.1
  have hfew : ls.length ≤ i.toNat := by have h1 := hci.perm.length_eq; rw [List.length_map] at h1; have h2 := ringsOf_few (ws.take i.toNat); rw [List.length_take] at h2; omega
  have hwl : 0 ≤ i → i < ws.length → (rdl ws i).length ≤ 8000 := fun h h' => hN.1 _ (rdl_mem2 h h')
  refine w_seq ?_
  refine w_seq ?_
  refine w_reg ?_
  refine wr_y rfl (y_move rfl) ?_
  refine wr_y rfl (y_move rfl) ?_
  refine wr_y rfl (y_len Tryz.underlying22 rfl) ?_
  refine wr_y rfl (y_lt rfl rfl) ?_
  refine wr_nil ?_
  refine w_if rfl (fun hc1 => ?_) (fun hc1 => ?_)
  ·
    have hwl2 := hwl hi0 (by omega)
    refine w_skip ?_
    refine w_seq ?_
    refine w_block ?_
    refine w_seq ?_
    refine w_seq ?_
    refine w_reg ?_
    refine wr_y rfl (y_move rfl) ?_
    refine wr_y rfl (y_move rfl) ?_
    refine wr_y rfl (y_index1 Tryz.underlying22 sz23 rfl rfl (h_ws.c _) (by omega) (by omega)) ?_
    refine s_ws.elim (i := i) (by omega) (by omega) (fun A_1 c_2 hv_3 hr_4 hb_5 mhr_4 => ?_)
    refine wr_y rfl (y_ld Tryz.underlying23 rfl rfl rfl (h_ws.c _) hv_3) ?_
    refine wr_y rfl (y_len Tryz.underlying23 rfl) ?_
    refine wr_y rfl (y_eq rfl rfl) ?_
    refine wr_nil ?_
    refine w_if rfl (fun hc2 => ?_) (fun hc2 => ?_)
    ·
      refine w_exit ?_
      refine w_reg ?_
      refine wr_y rfl (y_move rfl) ?_
      refine wr_y rfl (y_addI rfl rfl (by omega)) ?_
      refine wr_y rfl (y_assign rfl) ?_
      refine wr_nil ?_
      exact ⟨i + 1, A1, n1, c1, vals, ls, Rs, ⟨(by omega), (by omega), (hn1), (hsl), (hok), (by rw [take_succ_rdl2 hi0 (by omega)]; exact hci.skip (by omega))⟩, (by omega), (Sub.cons rfl (Sub.cons rfl (Sub.cons rfl Sub.nil))), fun _ h => h⟩
    ·
      refine w_skip ?_
      refine w_seq ?_
      refine w_reg ?_
      refine wr_y rfl (y_move rfl) ?_
      refine wr_y rfl (y_move rfl) ?_
      refine wr_y rfl (y_index1 Tryz.underlying22 sz23 rfl rfl (h_ws.c _) (by omega) (by omega)) ?_
      refine s_ws.elim (i := i) (by omega) (by omega) (fun A_6 c_7 hv_8 hr_9 hb_10 mhr_9 => ?_)
      refine wr_y rfl (y_ld Tryz.underlying23 rfl rfl rfl (h_ws.c _) hv_8) ?_
      refine wr_a rfl (a_callF en24 rfl (Ct.fresh (fun w hw => of6_ct ((hr_9.c _) w hw) (by omega)))) ?_
      rintro _ _ ⟨_, rfl, A_11, c_12, rfl, rfl⟩
      refine wr_y rfl (y_assign rfl) ?_
      refine wr_nil ?_
      refine w_seq ?_
      refine w_reg ?_
      refine wr_y rfl (y_move rfl) ?_
      refine wr_y rfl (y_len Tryz.underlying22 rfl) ?_
      refine wr_y rfl (y_assign rfl) ?_
      refine wr_nil ?_
      refine w_seq ?_
      refine w_block ?_
      refine w_loop1 (fun (j : Int) => [(0, .slice A_ws ws.length c_ws), (3, .slice A1 n1 c1), (4, .int .i64 i), (5, .slice A_11 ((lw (rdl ws i)).length) c_12), (6, .int .i64 j)]) (fun (j : Int) => (⟨5, 1, A_11, (lw (rdl ws i)).length, c_12, ints .u8 (lw (rdl ws i)), false⟩ :: ⟨23, 1, A1, n1, c1, vals, false⟩ :: Rs)) (fun (j : Int) => (0 ≤ j) ∧ (j ≤ n1) ∧ (∀ q : Int, j ≤ q → q < ls.length → kcmp (kw (lw (rdl ws i))) (kw (rdl ls q)) < 0)) (fun (j : Int) => j.toNat) ?_ ?_
      ·
        exact ⟨((n1 : Nat) : Int), ⟨(by omega), (by omega), (fun q h1 h2 => by omega)⟩, (Sub.cons rfl (Sub.cons rfl (Sub.cons rfl (Sub.cons rfl (Sub.cons rfl Sub.nil))))), fun _ h => h⟩
      intro j ⟨hj0, hj1, hup⟩
      have hjm : 0 < j → ByteL (rdl ls (j - 1)) ∧ 0 < (rdl ls (j - 1)).length ∧ (rdl ls (j - 1)).length ≤ 8000 := fun h => hok _ (rdl_mem2 (by omega) (by omega))
      refine w_seq ?_
      refine w_seq ?_
      refine w_reg ?_
      refine wr_y rfl (y_move rfl) ?_
      refine wr_y rfl (y_gt rfl rfl) ?_
      refine wr_y rfl (y_move rfl) ?_
      refine wr_mid 8 [(0, .slice A_ws ws.length c_ws), (3, .slice A1 n1 c1), (4, .int .i64 i), (5, .slice A_11 ((lw (rdl ws i)).length) c_12), (6, .int .i64 j), (36, .bool (decide ((0 < j) ∧ (kcmp (kw (lw (rdl ws i))) (kw (rdl ls (j - 1))) < 0))))] (⟨5, 1, A_11, (lw (rdl ws i)).length, c_12, ints .u8 (lw (rdl ws i)), false⟩ :: ⟨23, 1, A1, n1, c1, vals, false⟩ :: Rs) ?_ ?_
      ·
        refine wr_case 28 rfl (fun hc3 => ?_) (fun hc3 => ?_)
        ·
          refine wr_yes rfl rfl ?_
          refine wr_y rfl (y_move rfl) ?_
          refine wr_yes rfl rfl ?_
          refine wr_y rfl (y_move rfl) ?_
          refine wr_yes rfl rfl ?_
          refine wr_y rfl (y_move rfl) ?_
          refine wr_yes rfl rfl ?_
          refine wr_y rfl (y_subI rfl rfl (by omega)) ?_
          refine wr_yes rfl rfl ?_
          refine wr_y rfl (y_index1 Tryz.underlying22 sz23 rfl rfl (rdr 1 rfl) (by omega) (by omega)) ?_
          refine wr_yes rfl rfl ?_
          obtain ⟨A_13, c_14, hv_15, hr_16⟩ := hsl.at (i := j - 1) (by omega) (by omega)
          refine wr_y rfl (y_ld Tryz.underlying23 rfl rfl rfl (rdr 1 rfl) hv_15) ?_
          refine wr_yes rfl rfl ?_
          refine wr_a rfl (a_callF en25 rfl (Ct.quiet (fun w hw => less9_ct ((rdr 0 rfl) w hw) ((fun _ h => hr_16 _ _ _ (h.right (R' := [_, _]))) w hw) (lw_bytes (hob _ (rdl_mem2 hi0 (by omega))).1) (hjm (by omega)).1 (by rw [lw_len]; omega) ⟨(hjm (by omega)).2.1, by have := (hjm (by omega)).2.2; omega⟩))) ?_
          rintro _ _ ⟨rfl, rfl⟩
          refine wr_y rfl (y_pickT rfl rfl) ?_
          refine wr_nil ?_
          exact ⟨(Sub.cons rfl (Sub.cons rfl (Sub.cons rfl (Sub.cons rfl (Sub.cons rfl (Sub.to rfl (mb (by first | omega | exact ⟨fun h => ⟨(by assumption), h⟩, fun h => h.2⟩ | exact .inl (by assumption) | exact ⟨.inr, fun h => h.resolve_left (by assumption)⟩ | exact ⟨fun h => h.resolve_left (by assumption), .inr⟩ | simp [*])) Sub.nil)))))), fun _ h => h⟩
        ·
          refine wr_no rfl rfl rfl rfl ?_
          refine wr_no rfl rfl rfl rfl ?_
          refine wr_no rfl rfl rfl rfl ?_
          refine wr_no rfl rfl rfl rfl ?_
          refine wr_no rfl rfl rfl rfl ?_
          refine wr_no rfl rfl rfl rfl ?_
          refine wr_no rfl rfl rfl rfl ?_
          refine wr_y rfl (y_pickF rfl rfl) ?_
          refine wr_nil ?_
          exact ⟨(Sub.cons rfl (Sub.cons rfl (Sub.cons rfl (Sub.cons rfl (Sub.cons rfl (Sub.to rfl (mb_f (by first | omega | exact ⟨fun h => ⟨(by assumption), h⟩, fun h => h.2⟩ | exact .inl (by assumption) | exact ⟨.inr, fun h => h.resolve_left (by assumption)⟩ | exact ⟨fun h => h.resolve_left (by assumption), .inr⟩ | simp [*])) Sub.nil)))))), fun _ h => h⟩
      refine wr_nil ?_
      refine w_if rfl (fun hc4 => ?_) (fun hc4 => ?_)
      ·
        have hst := hc4
        refine w_skip ?_
        refine w_block ?_
        refine w_reg ?_
        refine wr_y rfl (y_move rfl) ?_
        refine wr_y rfl (y_subI rfl rfl (by omega)) ?_
        refine wr_y rfl (y_assign rfl) ?_
        refine wr_nil ?_
        exact ⟨j - 1, ⟨(by omega), (by omega), (fun q h1 h2 => by
            rcases Int.lt_or_le q j with g | g
            · obtain rfl : q = j - 1 := by omega
              exact hst.2
            · exact hup q g h2)⟩, (by omega), (Sub.cons rfl (Sub.cons rfl (Sub.cons rfl (Sub.cons rfl (Sub.cons rfl Sub.nil))))), fun _ h => h⟩
      ·
        have hst := hc4
        refine w_exit ?_
        refine w_regd mixed ?_
        refine wd_y 1 rfl (by kernel_rfl) rfl (y_move rfl) ?_
        refine wd_y 2 rfl (by kernel_rfl) rfl (y_move rfl) ?_
        refine wd_y 3 rfl (by kernel_rfl) rfl (y_sliceTo Tryz.underlying22 sz23 rfl rfl (rdr 1 rfl) (by omega) (by omega)) ?_
        refine wd_y 5 rfl (by kernel_rfl) rfl (y_move rfl) ?_
        refine wd_y 8 rfl (by kernel_rfl) rfl (y_move rfl) ?_
        refine wd_y 9 rfl (by kernel_rfl) rfl (y_move rfl) ?_
        refine wd_y 10 rfl (by kernel_rfl) rfl (y_sliceFrom Tryz.underlying22 sz23 rfl rfl (by omega) (by omega)) ?_
        refine wd_two 0 6 (by kernel_rfl) ?_ ?_
        ·
          refine t1_a 0 rfl rfl (a_lit [] Tryz.underlying22 zs23 rfl rfl rfl rfl) ?_
          rintro _ _ ⟨g_18, rfl, rfl⟩
          refine ⟨.inr fun _ h => h.right (R' := [_]), ?_⟩
          refine wd_two 4 6 (by kernel_rfl) ?_ ?_
          ·
            refine t1_a 4 rfl rfl (a_append 0 rfl rfl Tryz.underlying22 zb23 rfl rfl rfl rfl rfl (RdC.toV (rdr 2 rfl) (by omega)) (hsl.take _).one (by dsimp only; omega)) ?_
            rintro _ _ ⟨A_19, c_20, rfl, rfl⟩
            refine ⟨.inl (by kernel_rfl), ?_⟩
            refine wd_rows (R1 := (⟨23, 1, A_19, (0 + ((j).toNat)), c_20, ([]) ++ ((vals).take (j).toNat), false⟩ :: ⟨5, 1, A_11, (lw (rdl ws i)).length, c_12, ints .u8 (lw (rdl ws i)), false⟩ :: ⟨23, 1, A1, n1, c1, vals, false⟩ :: Rs)) rfl ?_
            refine wd_as (v := .slice A_19 (0 + ((j).toNat)) c_20) rfl ?_
            refine wd_a 6 rfl (by kernel_rfl) rfl (a_lit [Value.slice A_11 ((lw (rdl ws i)).length) c_12] Tryz.underlying22 zs23 rfl rfl rfl rfl) ?_
            rintro _ _ ⟨g_22, rfl, rfl⟩
            refine ⟨.inr fun _ h => h.right (R' := [_]), ?_⟩
            refine wd_a 7 rfl (by kernel_rfl) rfl (a_append 1 rfl rfl Tryz.underlying22 zb23 rfl rfl rfl rfl rfl (rdr 0 rfl) (by simp [Value.oneCell']) (by dsimp only; omega)) ?_
            rintro _ _ ⟨A_23, c_24, rfl, rfl⟩
            refine ⟨.inl (by kernel_rfl), ?_⟩
            refine wd_rows (R1 := (⟨23, 1, (some ⟨g_22, 0, none⟩), 1, 1, [Value.slice A_11 ((lw (rdl ws i)).length) c_12], false⟩ :: ⟨23, 1, A_23, ((0 + ((j).toNat)) + 1), c_24, (([]) ++ ((vals).take (j).toNat)) ++ ([Value.slice A_11 ((lw (rdl ws i)).length) c_12]), false⟩ :: ⟨5, 1, A_11, (lw (rdl ws i)).length, c_12, ints .u8 (lw (rdl ws i)), false⟩ :: ⟨23, 1, A1, n1, c1, vals, false⟩ :: Rs)) rfl ?_
            refine wd_as (v := .slice A_23 ((0 + ((j).toNat)) + 1) c_24) rfl ?_
            refine wd_a 11 rfl (by kernel_rfl) rfl (a_append 1 rfl rfl Tryz.underlying22 zb23 rfl rfl rfl rfl rfl (RdC.fromV (rdr 3 rfl) (by omega)) (hsl.drop _).one (by dsimp only; omega)) ?_
            rintro _ _ ⟨A_25, c_26, rfl, rfl⟩
            refine ⟨.inl (by kernel_rfl), ?_⟩
            refine wd_rows (R1 := (⟨23, 1, (some ⟨g_22, 0, none⟩), 1, 1, [Value.slice A_11 ((lw (rdl ws i)).length) c_12], false⟩ :: ⟨23, 1, A_25, (((0 + ((j).toNat)) + 1) + (n1 - (j).toNat)), c_26, ((([]) ++ ((vals).take (j).toNat)) ++ ([Value.slice A_11 ((lw (rdl ws i)).length) c_12])) ++ ((vals).drop (j).toNat), false⟩ :: ⟨5, 1, A_11, (lw (rdl ws i)).length, c_12, ints .u8 (lw (rdl ws i)), false⟩ :: ⟨23, 1, A1, n1, c1, vals, false⟩ :: Rs)) rfl ?_
            refine wd_as (v := .slice A_25 (((0 + ((j).toNat)) + 1) + (n1 - (j).toNat)) c_26) rfl ?_
            refine wd_y 12 rfl (by kernel_rfl) rfl (y_assign rfl) ?_
            refine wd_nil (by kernel_rfl) ?_
            refine w_reg ?_
            refine wr_y rfl (y_move rfl) ?_
            refine wr_y rfl (y_addI rfl rfl (by omega)) ?_
            refine wr_y rfl (y_assign rfl) ?_
            refine wr_nil ?_
            exact ⟨i + 1, A_25, ((0 + ((j).toNat)) + 1) + (n1 - (j).toNat), c_26, ((([]) ++ ((vals).take (j).toNat)) ++ ([Value.slice A_11 ((lw (rdl ws i)).length) c_12])) ++ ((vals).drop (j).toNat), ([] ++ ls.take j.toNat ++ [lw (rdl ws i)] ++ ls.drop j.toNat), (⟨5, 1, A_11, (lw (rdl ws i)).length, c_12, ints .u8 (lw (rdl ws i)), false⟩ :: Rs), ⟨(by omega), (by omega), (by simp only [List.length_append, List.length_take, List.length_drop, List.length_cons, List.length_nil]; omega), (((((SlR.nilR _ _).app (hsl.take _)).right [_]).push rfl (fun _ _ _ h => rdr 0 rfl _ h)).app ((hsl.drop _).right [_])), (ins_ok hok (lw_bytes (hob _ (rdl_mem2 hi0 (by omega))).1) (by rw [lw_len]; omega)), (by rw [take_succ_rdl2 hi0 (by omega)]; exact hci.put (by omega) hj0 (by omega) hup hst)⟩, (by omega), (Sub.cons rfl (Sub.cons rfl (Sub.cons rfl Sub.nil))), fun _ h => h.selR (F := [_, _, _, _]) (F' := [_, _]) [1, 2] (by decide) rfl⟩
          ·
            refine t1_a 6 rfl rfl (a_lit [Value.slice A_11 ((lw (rdl ws i)).length) c_12] Tryz.underlying22 zs23 rfl rfl rfl rfl) ?_
            rintro _ _ ⟨g_29, rfl, rfl⟩
            refine ⟨.inr fun _ h => h.right (R' := [_]), ?_⟩
            refine wd_a 4 rfl (by kernel_rfl) rfl (a_append 1 rfl rfl Tryz.underlying22 zb23 rfl rfl rfl rfl rfl (RdC.toV (rdr 3 rfl) (by omega)) (hsl.take _).one (by dsimp only; omega)) ?_
            rintro _ _ ⟨A_30, c_31, rfl, rfl⟩
            refine ⟨.inl (by kernel_rfl), ?_⟩
            refine wd_rows (R1 := (⟨23, 1, (some ⟨g_29, 0, none⟩), 1, 1, [Value.slice A_11 ((lw (rdl ws i)).length) c_12], false⟩ :: ⟨23, 1, A_30, (0 + ((j).toNat)), c_31, ([]) ++ ((vals).take (j).toNat), false⟩ :: ⟨5, 1, A_11, (lw (rdl ws i)).length, c_12, ints .u8 (lw (rdl ws i)), false⟩ :: ⟨23, 1, A1, n1, c1, vals, false⟩ :: Rs)) rfl ?_
            refine wd_as (v := .slice A_30 (0 + ((j).toNat)) c_31) rfl ?_
            refine wd_a 7 rfl (by kernel_rfl) rfl (a_append 1 rfl rfl Tryz.underlying22 zb23 rfl rfl rfl rfl rfl (rdr 0 rfl) (by simp [Value.oneCell']) (by dsimp only; omega)) ?_
            rintro _ _ ⟨A_32, c_33, rfl, rfl⟩
            refine ⟨.inl (by kernel_rfl), ?_⟩
            refine wd_rows (R1 := (⟨23, 1, (some ⟨g_29, 0, none⟩), 1, 1, [Value.slice A_11 ((lw (rdl ws i)).length) c_12], false⟩ :: ⟨23, 1, A_32, ((0 + ((j).toNat)) + 1), c_33, (([]) ++ ((vals).take (j).toNat)) ++ ([Value.slice A_11 ((lw (rdl ws i)).length) c_12]), false⟩ :: ⟨5, 1, A_11, (lw (rdl ws i)).length, c_12, ints .u8 (lw (rdl ws i)), false⟩ :: ⟨23, 1, A1, n1, c1, vals, false⟩ :: Rs)) rfl ?_
            refine wd_as (v := .slice A_32 ((0 + ((j).toNat)) + 1) c_33) rfl ?_
            refine wd_a 11 rfl (by kernel_rfl) rfl (a_append 1 rfl rfl Tryz.underlying22 zb23 rfl rfl rfl rfl rfl (RdC.fromV (rdr 3 rfl) (by omega)) (hsl.drop _).one (by dsimp only; omega)) ?_
            rintro _ _ ⟨A_34, c_35, rfl, rfl⟩
            refine ⟨.inl (by kernel_rfl), ?_⟩
            refine wd_rows (R1 := (⟨23, 1, (some ⟨g_29, 0, none⟩), 1, 1, [Value.slice A_11 ((lw (rdl ws i)).length) c_12], false⟩ :: ⟨23, 1, A_34, (((0 + ((j).toNat)) + 1) + (n1 - (j).toNat)), c_35, ((([]) ++ ((vals).take (j).toNat)) ++ ([Value.slice A_11 ((lw (rdl ws i)).length) c_12])) ++ ((vals).drop (j).toNat), false⟩ :: ⟨5, 1, A_11, (lw (rdl ws i)).length, c_12, ints .u8 (lw (rdl ws i)), false⟩ :: ⟨23, 1, A1, n1, c1, vals, false⟩ :: Rs)) rfl ?_
            refine wd_as (v := .slice A_34 (((0 + ((j).toNat)) + 1) + (n1 - (j).toNat)) c_35) rfl ?_
            refine wd_y 12 rfl (by kernel_rfl) rfl (y_assign rfl) ?_
            refine wd_nil (by kernel_rfl) ?_
            refine w_reg ?_
            refine wr_y rfl (y_move rfl) ?_
            refine wr_y rfl (y_addI rfl rfl (by omega)) ?_
            refine wr_y rfl (y_assign rfl) ?_
            refine wr_nil ?_
            exact ⟨i + 1, A_34, ((0 + ((j).toNat)) + 1) + (n1 - (j).toNat), c_35, ((([]) ++ ((vals).take (j).toNat)) ++ ([Value.slice A_11 ((lw (rdl ws i)).length) c_12])) ++ ((vals).drop (j).toNat), ([] ++ ls.take j.toNat ++ [lw (rdl ws i)] ++ ls.drop j.toNat), (⟨5, 1, A_11, (lw (rdl ws i)).length, c_12, ints .u8 (lw (rdl ws i)), false⟩ :: Rs), ⟨(by omega), (by omega), (by simp only [List.length_append, List.length_take, List.length_drop, List.length_cons, List.length_nil]; omega), (((((SlR.nilR _ _).app (hsl.take _)).right [_]).push rfl (fun _ _ _ h => rdr 0 rfl _ h)).app ((hsl.drop _).right [_])), (ins_ok hok (lw_bytes (hob _ (rdl_mem2 hi0 (by omega))).1) (by rw [lw_len]; omega)), (by rw [take_succ_rdl2 hi0 (by omega)]; exact hci.put (by omega) hj0 (by omega) hup hst)⟩, (by omega), (Sub.cons rfl (Sub.cons rfl (Sub.cons rfl Sub.nil))), fun _ h => h.selR (F := [_, _, _, _]) (F' := [_, _]) [1, 2] (by decide) rfl⟩
        ·
          refine t1_a 6 rfl rfl (a_lit [Value.slice A_11 ((lw (rdl ws i)).length) c_12] Tryz.underlying22 zs23 rfl rfl rfl rfl) ?_
          rintro _ _ ⟨g_38, rfl, rfl⟩
          refine ⟨.inr fun _ h => h.right (R' := [_]), ?_⟩
          refine wd_a 0 rfl (by kernel_rfl) rfl (a_lit [] Tryz.underlying22 zs23 rfl rfl rfl rfl) ?_
          rintro _ _ ⟨g_40, rfl, rfl⟩
          refine ⟨.inr fun _ h => h.right (R' := [_]), ?_⟩
          refine wd_a 4 rfl (by kernel_rfl) rfl (a_append 0 rfl rfl Tryz.underlying22 zb23 rfl rfl rfl rfl rfl (RdC.toV (rdr 3 rfl) (by omega)) (hsl.take _).one (by dsimp only; omega)) ?_
          rintro _ _ ⟨A_41, c_42, rfl, rfl⟩
          refine ⟨.inl (by kernel_rfl), ?_⟩
          refine wd_rows (R1 := (⟨23, 1, A_41, (0 + ((j).toNat)), c_42, ([]) ++ ((vals).take (j).toNat), false⟩ :: ⟨23, 1, (some ⟨g_38, 0, none⟩), 1, 1, [Value.slice A_11 ((lw (rdl ws i)).length) c_12], false⟩ :: ⟨5, 1, A_11, (lw (rdl ws i)).length, c_12, ints .u8 (lw (rdl ws i)), false⟩ :: ⟨23, 1, A1, n1, c1, vals, false⟩ :: Rs)) rfl ?_
          refine wd_as (v := .slice A_41 (0 + ((j).toNat)) c_42) rfl ?_
          refine wd_a 7 rfl (by kernel_rfl) rfl (a_append 0 rfl rfl Tryz.underlying22 zb23 rfl rfl rfl rfl rfl (rdr 1 rfl) (by simp [Value.oneCell']) (by dsimp only; omega)) ?_
          rintro _ _ ⟨A_43, c_44, rfl, rfl⟩
          refine ⟨.inl (by kernel_rfl), ?_⟩
          refine wd_rows (R1 := (⟨23, 1, A_43, ((0 + ((j).toNat)) + 1), c_44, (([]) ++ ((vals).take (j).toNat)) ++ ([Value.slice A_11 ((lw (rdl ws i)).length) c_12]), false⟩ :: ⟨23, 1, (some ⟨g_38, 0, none⟩), 1, 1, [Value.slice A_11 ((lw (rdl ws i)).length) c_12], false⟩ :: ⟨5, 1, A_11, (lw (rdl ws i)).length, c_12, ints .u8 (lw (rdl ws i)), false⟩ :: ⟨23, 1, A1, n1, c1, vals, false⟩ :: Rs)) rfl ?_
          refine wd_as (v := .slice A_43 ((0 + ((j).toNat)) + 1) c_44) rfl ?_
          refine wd_a 11 rfl (by kernel_rfl) rfl (a_append 0 rfl rfl Tryz.underlying22 zb23 rfl rfl rfl rfl rfl (RdC.fromV (rdr 3 rfl) (by omega)) (hsl.drop _).one (by dsimp only; omega)) ?_
          rintro _ _ ⟨A_45, c_46, rfl, rfl⟩
          refine ⟨.inl (by kernel_rfl), ?_⟩
          refine wd_rows (R1 := (⟨23, 1, A_45, (((0 + ((j).toNat)) + 1) + (n1 - (j).toNat)), c_46, ((([]) ++ ((vals).take (j).toNat)) ++ ([Value.slice A_11 ((lw (rdl ws i)).length) c_12])) ++ ((vals).drop (j).toNat), false⟩ :: ⟨23, 1, (some ⟨g_38, 0, none⟩), 1, 1, [Value.slice A_11 ((lw (rdl ws i)).length) c_12], false⟩ :: ⟨5, 1, A_11, (lw (rdl ws i)).length, c_12, ints .u8 (lw (rdl ws i)), false⟩ :: ⟨23, 1, A1, n1, c1, vals, false⟩ :: Rs)) rfl ?_
          refine wd_as (v := .slice A_45 (((0 + ((j).toNat)) + 1) + (n1 - (j).toNat)) c_46) rfl ?_
          refine wd_y 12 rfl (by kernel_rfl) rfl (y_assign rfl) ?_
          refine wd_nil (by kernel_rfl) ?_
          refine w_reg ?_
          refine wr_y rfl (y_move rfl) ?_
          refine wr_y rfl (y_addI rfl rfl (by omega)) ?_
          refine wr_y rfl (y_assign rfl) ?_
          refine wr_nil ?_
          exact ⟨i + 1, A_45, ((0 + ((j).toNat)) + 1) + (n1 - (j).toNat), c_46, ((([]) ++ ((vals).take (j).toNat)) ++ ([Value.slice A_11 ((lw (rdl ws i)).length) c_12])) ++ ((vals).drop (j).toNat), ([] ++ ls.take j.toNat ++ [lw (rdl ws i)] ++ ls.drop j.toNat), (⟨5, 1, A_11, (lw (rdl ws i)).length, c_12, ints .u8 (lw (rdl ws i)), false⟩ :: Rs), ⟨(by omega), (by omega), (by simp only [List.length_append, List.length_take, List.length_drop, List.length_cons, List.length_nil]; omega), (((((SlR.nilR _ _).app (hsl.take _)).right [_]).push rfl (fun _ _ _ h => rdr 0 rfl _ h)).app ((hsl.drop _).right [_])), (ins_ok hok (lw_bytes (hob _ (rdl_mem2 hi0 (by omega))).1) (by rw [lw_len]; omega)), (by rw [take_succ_rdl2 hi0 (by omega)]; exact hci.put (by omega) hj0 (by omega) hup hst)⟩, (by omega), (Sub.cons rfl (Sub.cons rfl (Sub.cons rfl Sub.nil))), fun _ h => h.selR (F := [_, _, _, _]) (F' := [_, _]) [0, 2] (by decide) rfl⟩
  ·
    refine w_exit ?_
    refine w_seq ?_
    refine w_reg ?_
    refine wr_y rfl (y_move rfl) ?_
    refine wr_y rfl (y_assign rfl) ?_
    refine wr_nil ?_
    refine w_retR (R1 := (⟨23, 1, A1, n1, c1, vals, false⟩ :: Rs)) (fun _ h => h) ?_
    refine ⟨_, rfl, ?_⟩
    obtain rfl : i = ws.length := by omega
    rw [Int.toNat_natCast, List.take_length] at hci
    obtain rfl : ls = canon ws := hci.done fun c hc => (hok c hc).2.1
    subst hn1
    exact ⟨_, _, vals, Rs, rfl, hsl, rfl⟩

end Go.Proofs.YtdfcnalkdlifiaaGreat

/-! ## N6 -/
namespace Go.Proofs.YtdfcnalkdlifiaaGreat
open Go Go.Eng Go.Pure
set_option linter.unusedVariables false
set_option maxRecDepth 100000 in
theorem ints4_ct {w : World} {A_l : Option Addr} {n_l c_l : Nat} {l : List Int} {A_m : Option Addr} {n_m c_m : Nat} {m : List Int} (h_l : Rd w A_l n_l c_l 1 (ints .i64 l)) (h_m : Rd w A_m n_m c_m 1 (ints .i64 m)) (hN : l.length ≤ 1000000) :
    Ct Tryz.prog 14 #[.slice A_l n_l c_l, .slice A_m n_m c_m] w.heap.size w [] (fun v R' => v = .bool (decide (l = m))) := by
  obtain rfl := h_l.lenI
  obtain rfl := h_m.lenI
  refine fn1 Tryz.func14 rfl rfl rfl ?_
  have m_l := h_l.max
  have m_m := h_m.max
  refine w_seq ?_
  refine w_reg ?_
  refine wr_y rfl (y_assign rfl) ?_
  refine wr_nil ?_
  refine w_seq ?_
  refine w_seq ?_
  refine w_reg ?_
  refine wr_y rfl (y_move rfl) ?_
  refine wr_y rfl (y_len Tryz.underlying24 rfl) ?_
  refine wr_y rfl (y_move rfl) ?_
  refine wr_y rfl (y_len Tryz.underlying24 rfl) ?_
  refine wr_y rfl (y_ne rfl rfl) ?_
  refine wr_nil ?_
  refine w_if rfl (fun hc1 => ?_) (fun hc1 => ?_)
  ·
    refine w_seq ?_
    refine w_reg ?_
    refine wr_y rfl (y_assign rfl) ?_
    refine wr_nil ?_
    refine w_ret ?_
    refine ⟨_, rfl, ?_⟩
    exact congrArg Value.bool (decide_eq_false (fun e => by rw [e] at hc1; exact hc1 rfl)).symm
  ·
    refine w_skip ?_
    refine w_seq ?_
    refine w_seq ?_
    refine w_reg ?_
    refine wr_y rfl (y_assign rfl) ?_
    refine wr_nil ?_
    refine w_block ?_
    refine w_loop1 (fun (k : Int) => [(0, .slice A_l l.length c_l), (1, .slice A_m m.length c_m), (5, .int .i64 k)]) (fun (k : Int) => []) (fun (k : Int) => (0 ≤ k) ∧ (k ≤ l.length) ∧ (l.take k.toNat = m.take k.toNat)) (fun (k : Int) => (l.length - k).toNat) ?_ ?_
    ·
      exact ⟨0, ⟨(by omega), (by omega), (rfl)⟩, (Sub.cons rfl (Sub.cons rfl (Sub.cons rfl Sub.nil))), fun _ h => h⟩
    intro k ⟨hk0, hk1, hq⟩
    refine w_seq ?_
    refine w_seq ?_
    refine w_reg ?_
    refine wr_y rfl (y_move rfl) ?_
    refine wr_y rfl (y_move rfl) ?_
    refine wr_y rfl (y_len Tryz.underlying24 rfl) ?_
    refine wr_y rfl (y_lt rfl rfl) ?_
    refine wr_nil ?_
    refine w_if rfl (fun hc2 => ?_) (fun hc2 => ?_)
    ·
      refine w_skip ?_
      refine w_seq ?_
      refine w_block ?_
      refine w_seq ?_
      refine w_regd mixed ?_
      refine wd_y 0 rfl (by kernel_rfl) rfl (y_move rfl) ?_
      refine wd_y 1 rfl (by kernel_rfl) rfl (y_move rfl) ?_
      refine wd_y 2 rfl (by kernel_rfl) rfl (y_index1 Tryz.underlying24 sz3 rfl rfl (h_l.c _) (by omega) (by omega)) ?_
      refine wd_y 3 rfl (by kernel_rfl) rfl (y_ldI Tryz.underlying3 rfl rfl (h_l.c _) (by omega) (by omega)) ?_
      refine wd_y 4 rfl (by kernel_rfl) rfl (y_move rfl) ?_
      refine wd_y 5 rfl (by kernel_rfl) rfl (y_move rfl) ?_
      refine wd_y 6 rfl (by kernel_rfl) rfl (y_index1 Tryz.underlying24 sz3 rfl rfl (h_m.c _) (by omega) (by omega)) ?_
      refine wd_y 7 rfl (by kernel_rfl) rfl (y_ldI Tryz.underlying3 rfl rfl (h_m.c _) (by omega) (by omega)) ?_
      refine wd_y 8 rfl (by kernel_rfl) rfl (y_ne rfl rfl) ?_
      refine wd_nil (by kernel_rfl) ?_
      refine w_if rfl (fun hc3 => ?_) (fun hc3 => ?_)
      ·
        refine w_seq ?_
        refine w_reg ?_
        refine wr_y rfl (y_assign rfl) ?_
        refine wr_nil ?_
        refine w_ret ?_
        refine ⟨_, rfl, ?_⟩
        exact congrArg Value.bool (decide_eq_false (fun e => by subst e; exact hc3 rfl)).symm
      ·
        refine w_skip ?_
        refine w_reg ?_
        refine wr_y rfl (y_move rfl) ?_
        refine wr_y rfl (y_addI rfl rfl (by omega)) ?_
        refine wr_y rfl (y_assign rfl) ?_
        refine wr_nil ?_
        exact ⟨k + 1, ⟨(by omega), (by omega), (by rw [take_rd hk0 (by omega), take_rd hk0 (by omega), hq]; exact congrArg (fun z => List.take k.toNat m ++ [z]) (Decidable.not_not.1 (by assumption)))⟩, (by omega), (Sub.cons rfl (Sub.cons rfl (Sub.cons rfl Sub.nil))), fun _ h => h⟩
    ·
      refine w_exit ?_
      refine w_seq ?_
      refine w_reg ?_
      refine wr_y rfl (y_assign rfl) ?_
      refine wr_nil ?_
      refine w_ret ?_
      refine ⟨_, rfl, ?_⟩
      exact congrArg Value.bool (decide_eq_true (by rw [List.take_of_length_le (by omega), List.take_of_length_le (by omega)] at hq; exact hq)).symm

theorem cw_step {β : Type} (f : List Int → β) {ls : List (List Int)} {i : Int} (h0 : 0 ≤ i) (h1 : i < ls.length) : (ls.take (i + 1).toNat).map f = (ls.take i.toNat).map f ++ [f (rdl ls i)] := by
  rw [take_succ_rdl2 h0 h1, List.map_append]; rfl
theorem canon_w {ws : List (List Int)} {M : Nat} (hb : OkB ws) (h : ∀ w ∈ ws, w.length ≤ M) {c : List Int} (hc : c ∈ canon ws) : ByteL c ∧ 0 < c.length ∧ c.length ≤ M := by
  have h1 := canon_ok hb c hc
  obtain ⟨w, h2, h3, rfl⟩ := mem_canon hc
  rw [lw_len] at *
  exact ⟨h1.1, h3, h w h2⟩
set_option maxRecDepth 100000 in
set_option maxHeartbeats 1500000 in
theorem roots9_ct {w : World} {A_ws : Option Addr} {n_ws c_ws : Nat} {vals_ws : List Value} {ws : List (List Int)} (h_ws : Rd w A_ws n_ws c_ws 1 vals_ws) (s_ws : SlW .u8 w vals_ws ws) (hN : (∀ w ∈ ws, w.length ≤ 8000) ∧ ws.length ≤ 100000) :
    Ct Tryz.prog 28 #[.slice A_ws n_ws c_ws] w.heap.size w [] (fun v R' => ∃ (A : Option Addr) (c : Nat) (A2 : Option Addr) (c2 : Nat) (vals : List Value) (Rs : List Row), v = .tuple #[.slice A vals.length c, .slice A2 ((ringS ws).map Prod.snd).length c2] ∧ SlR .u8 Rs vals ((ringS ws).map Prod.fst) ∧ R' = ⟨23, 1, A, vals.length, c, vals, false⟩ :: ⟨3, 1, A2, ((ringS ws).map Prod.snd).length, c2, ints .i64 ((ringS ws).map Prod.snd), false⟩ :: Rs) := by
  obtain rfl : n_ws = ws.length := by have := h_ws.len; have := s_ws.1; omega
  refine fn2 Tryz.func28 rfl rfl rfl ?_
  have m_ws := h_ws.max
  have hob := s_ws.okB
  refine w_seq ?_
  refine w_reg ?_
  refine wr_y rfl (y_assign rfl) ?_
  refine wr_y rfl (y_assign rfl) ?_
  refine wr_nil ?_
  refine w_seq ?_
  refine w_reg ?_
  refine wr_y rfl (y_move rfl) ?_
  refine wr_a rfl (a_callF en10 rfl (Ct.fresh (fun w hw => canon9_ct ((h_ws.c _) w hw) (s_ws.c hw) (by first | assumption | omega | decide)))) ?_
  rintro _ _ ⟨_, rfl, A_1, c_2, vals_3, Rs_4, rfl, hsl_5, rfl⟩
  have hn_hsl_5 := hsl_5.1
  refine wr_sub (R1 := (⟨23, 1, A_1, vals_3.length, c_2, vals_3, false⟩ :: Rs_4)) (Sub.refl _) (fun _ h => Hp.toTail0 (X := [_]) (Y := []) h) ?_
  refine wr_y rfl (y_assign rfl) ?_
  refine wr_nil ?_
  refine w_seq ?_
  refine w_reg ?_
  refine wr_sub (R1 := (⟨23, 1, none, 0, 0, [], false⟩ :: ⟨23, 1, A_1, vals_3.length, c_2, vals_3, false⟩ :: Rs_4)) (Sub.refl _) (fun _ h => h.nil 23 1) ?_
  refine wr_y rfl (y_assign rfl) ?_
  refine wr_nil ?_
  refine w_seq ?_
  refine w_reg ?_
  refine wr_sub (R1 := (⟨3, 1, none, 0, 0, ints .i64 ([]), false⟩ :: ⟨23, 1, none, 0, 0, [], false⟩ :: ⟨23, 1, A_1, vals_3.length, c_2, vals_3, false⟩ :: Rs_4)) (Sub.refl _) (fun _ h => h.nil 3 1) ?_
  refine wr_y rfl (y_assign rfl) ?_
  refine wr_nil ?_
  refine w_seq ?_
  refine w_seq ?_
  refine w_reg ?_
  refine wr_y rfl (y_assign rfl) ?_
  refine wr_nil ?_
  refine w_block ?_
  refine w_loop10 (fun (i : Int) (A1 : Option Addr) (n1 : Nat) (c1 : Nat) (vals : List Value) (ls : List (List Int)) (A2 : Option Addr) (n2 : Nat) (c2 : Nat) (ts : List Int) => [(4, .slice A_1 vals_3.length c_2), (5, .slice A1 n1 c1), (6, .slice A2 n2 c2), (7, .int .i64 i)]) (fun (i : Int) (A1 : Option Addr) (n1 : Nat) (c1 : Nat) (vals : List Value) (ls : List (List Int)) (A2 : Option Addr) (n2 : Nat) (c2 : Nat) (ts : List Int) => (⟨3, 1, A2, n2, c2, ints .i64 ts, false⟩ :: ⟨23, 1, A1, n1, c1, vals, false⟩ :: ⟨23, 1, A_1, vals_3.length, c_2, vals_3, false⟩ :: Rs_4)) (fun (i : Int) (A1 : Option Addr) (n1 : Nat) (c1 : Nat) (vals : List Value) (ls : List (List Int)) (A2 : Option Addr) (n2 : Nat) (c2 : Nat) (ts : List Int) => (0 ≤ i) ∧ (i ≤ (canon ws).length) ∧ (n1 = vals.length) ∧ (n2 = ts.length) ∧ (SlR .u8 Rs_4 vals ls) ∧ (ls = ((canon ws).take i.toNat).map rootW) ∧ (ts = ((canon ws).take i.toNat).map timesW)) (fun (i : Int) (A1 : Option Addr) (n1 : Nat) (c1 : Nat) (vals : List Value) (ls : List (List Int)) (A2 : Option Addr) (n2 : Nat) (c2 : Nat) (ts : List Int) => ((canon ws).length - i).toNat) ?_ ?_
  ·
    exact ⟨0, none, 0, 0, [], [], none, 0, 0, [], ⟨(by omega), (by omega), (rfl), (rfl), (SlR.nilR _ _), (rfl), (rfl)⟩, (Sub.cons rfl (Sub.cons rfl (Sub.cons rfl (Sub.cons rfl Sub.nil)))), fun _ h => h⟩
  intro i A1 n1 c1 vals ls A2 n2 c2 ts ⟨hi0, hi1, hn1, hn2, hsl, hls, hts⟩
  have hll := congrArg List.length hls
  rw [List.length_map, List.length_take] at hll
  have hlt := congrArg List.length hts
  rw [List.length_map, List.length_take] at hlt
  have hsn := hsl.1
  have hfew := canon_few ws
  have hcw : 0 ≤ i → i < (canon ws).length → ByteL (rdl (canon ws) i) ∧ 0 < (rdl (canon ws) i).length ∧ (rdl (canon ws) i).length ≤ 8000 := fun h h' => canon_w hob hN.1 (rdl_mem2 h h')
  refine w_seq ?_
  refine w_seq ?_
  refine w_reg ?_
  refine wr_y rfl (y_move rfl) ?_
  refine wr_y rfl (y_move rfl) ?_
  refine wr_y rfl (y_len Tryz.underlying22 rfl) ?_
  refine wr_y rfl (y_lt rfl rfl) ?_
  refine wr_nil ?_
  refine w_if rfl (fun hc1 => ?_) (fun hc1 => ?_)
  ·
    have hcw2 := hcw hi0 (by omega)
    refine w_skip ?_
    refine w_seq ?_
    refine w_block ?_
    refine w_seq ?_
    refine w_reg ?_
    refine wr_y rfl (y_move rfl) ?_
    refine wr_y rfl (y_move rfl) ?_
    refine wr_y rfl (y_index1 Tryz.underlying22 sz23 rfl rfl (rdr 2 rfl) (by omega) (by omega)) ?_
    obtain ⟨A_7, c_8, hv_9, hr_10⟩ := hsl_5.at (i := i) (by omega) (by omega)
    refine wr_y rfl (y_ld Tryz.underlying23 rfl rfl rfl (rdr 2 rfl) hv_9) ?_
    refine wr_a rfl (a_callF en46 rfl (Ct.quiet (fun w hw => root5_ct ((fun _ h => hr_10 _ _ _ (h.right (R' := [_, _, _]))) w hw) hcw2.1 hcw2.2.1 (by omega)))) ?_
    rintro _ _ ⟨rfl, rfl⟩
    have hr10 := rl_range (u := (rdl (canon ws) i)) (by omega)
    refine wr_y rfl (y_move rfl) ?_
    refine wr_y rfl (y_extract rfl rfl) ?_
    refine wr_y rfl (y_extract rfl rfl) ?_
    refine wr_y rfl (y_assign rfl) ?_
    refine wr_y rfl (y_assign rfl) ?_
    refine wr_nil ?_
    refine w_reg ?_
    refine wr_y rfl (y_move rfl) ?_
    refine wr_y rfl (y_move rfl) ?_
    refine wr_a rfl (a_lit [Value.slice A_7 ((rl (rdl (canon ws) i)).toNat) c_8] Tryz.underlying22 zs23 rfl rfl rfl rfl) ?_
    rintro _ _ ⟨g_12, rfl, rfl⟩
    refine wr_a rfl (a_append 2 rfl rfl Tryz.underlying22 zb23 rfl rfl rfl rfl rfl (rdr 0 rfl) (by simp [Value.oneCell']) (by dsimp only; omega)) ?_
    rintro _ _ ⟨A_13, c_14, rfl, rfl⟩
    refine wr_rows (R1 := (⟨23, 1, (some ⟨g_12, 0, none⟩), 1, 1, [Value.slice A_7 ((rl (rdl (canon ws) i)).toNat) c_8], false⟩ :: ⟨3, 1, A2, n2, c2, ints .i64 ts, false⟩ :: ⟨23, 1, A_13, (n1 + 1), c_14, vals ++ ([Value.slice A_7 ((rl (rdl (canon ws) i)).toNat) c_8]), false⟩ :: ⟨23, 1, A_1, vals_3.length, c_2, vals_3, false⟩ :: Rs_4)) rfl ?_
    refine wr_as (v := .slice A_13 (n1 + 1) c_14) rfl ?_
    refine wr_y rfl (y_move rfl) ?_
    refine wr_y rfl (y_move rfl) ?_
    refine wr_a rfl (a_litI .i64 [(((rdl (canon ws) i)).length : Int) / rl (rdl (canon ws) i)] Tryz.underlying24 zs3 rfl rfl rfl) ?_
    rintro _ _ ⟨g_16, rfl, rfl⟩
    refine wr_a rfl (a_appendI 2 rfl Tryz.underlying24 zb3 rfl rfl rfl (rdr 0 rfl) (by omega)) ?_
    rintro _ _ ⟨A_17, c_18, rfl, rfl⟩
    refine wr_rows (R1 := (⟨3, 1, (some ⟨g_16, 0, none⟩), 1, 1, ints .i64 ([(((rdl (canon ws) i)).length : Int) / rl (rdl (canon ws) i)]), false⟩ :: ⟨23, 1, (some ⟨g_12, 0, none⟩), 1, 1, [Value.slice A_7 ((rl (rdl (canon ws) i)).toNat) c_8], false⟩ :: ⟨3, 1, A_17, (n2 + 1), c_18, ints .i64 (ts ++ ([(((rdl (canon ws) i)).length : Int) / rl (rdl (canon ws) i)])), false⟩ :: ⟨23, 1, A_13, (n1 + 1), c_14, vals ++ ([Value.slice A_7 ((rl (rdl (canon ws) i)).toNat) c_8]), false⟩ :: ⟨23, 1, A_1, vals_3.length, c_2, vals_3, false⟩ :: Rs_4)) rfl ?_
    refine wr_as (v := .slice A_17 (n2 + 1) c_18) rfl ?_
    refine wr_y rfl (y_assign rfl) ?_
    refine wr_y rfl (y_assign rfl) ?_
    refine wr_nil ?_
    refine w_reg ?_
    refine wr_y rfl (y_move rfl) ?_
    refine wr_y rfl (y_addI rfl rfl (by omega)) ?_
    refine wr_y rfl (y_assign rfl) ?_
    refine wr_nil ?_
    exact ⟨i + 1, A_13, n1 + 1, c_14, vals ++ ([Value.slice A_7 ((rl (rdl (canon ws) i)).toNat) c_8]), (ls ++ [(rdl (canon ws) i).take (rl (rdl (canon ws) i)).toNat]), A_17, n2 + 1, c_18, ts ++ ([(((rdl (canon ws) i)).length : Int) / rl (rdl (canon ws) i)]), ⟨(by omega), (by omega), (by rw [List.length_append, hn1]; rfl), (by rw [List.length_append, hn2]; rfl), (hsl.push (by rw [List.length_take]; omega) (fun B w0 => RdC.toI (hr_10 B w0) (by omega))), (by rw [cw_step rootW hi0 (by omega), ← hls]; rfl), (by rw [cw_step timesW hi0 (by omega), ← hts]; rfl)⟩, (by omega), (Sub.cons rfl (Sub.cons rfl (Sub.cons rfl (Sub.cons rfl Sub.nil)))), fun _ h => h.selR (F := [_, _, _, _, _]) (F' := [_, _, _]) [2, 3, 4] (by decide) rfl⟩
  ·
    refine w_exit ?_
    refine w_seq ?_
    refine w_reg ?_
    refine wr_y rfl (y_move rfl) ?_
    refine wr_y rfl (y_move rfl) ?_
    refine wr_y rfl (y_assign rfl) ?_
    refine wr_y rfl (y_assign rfl) ?_
    refine wr_nil ?_
    refine w_retR (R1 := (⟨23, 1, A1, n1, c1, vals, false⟩ :: ⟨3, 1, A2, n2, c2, ints .i64 ts, false⟩ :: Rs_4)) (fun _ h => h.selR (F := [_, _, _]) (F' := [_, _]) [1, 0] (by decide) rfl) ?_
    refine ⟨_, _, rfl, rfl, ?_⟩
    have hrd := roots_canon ws
    rw [List.take_of_length_le (by omega)] at hls hts
    obtain rfl : ls = (ringS ws).map Prod.fst := hls.trans hrd.1
    obtain rfl : ts = (ringS ws).map Prod.snd := hts.trans hrd.2
    subst hn1; subst hn2
    exact ⟨_, _, _, _, vals, _, rfl, hsl, rfl⟩

abbrev longP (M : Nat) (ws : List (List Int)) : Prop := M < (ws.take 40).flatten.length ∨ 30 < ws.length
theorem long_no {M : Nat} {ws : List (List Int)} (h : ¬ longP M ws) : ws.length ≤ 30 ∧ ws.flatten.length ≤ M ∧ ∀ w ∈ ws, w.length ≤ M := by
  unfold longP at h
  have h1 : ws.length ≤ 30 := by omega
  have h2 : ws.flatten.length ≤ M := by
    rw [List.take_of_length_le (by omega)] at h
    omega
  exact ⟨h1, h2, fun w hw => Nat.le_trans (List.Sublist.length_le (List.sublist_flatten_of_mem hw)) h2⟩
theorem long_take {ws : List (List Int)} {i : Int} (h0 : 0 ≤ i) (h1 : i ≤ ws.length) (h2 : i ≤ 40) (h : ¬ (i < ws.length ∧ i < 40)) : ws.take i.toNat = ws.take 40 := by
  rcases Int.lt_or_le i 40 with g | g
  · rw [List.take_of_length_le (by omega), List.take_of_length_le (by omega)]
  · rw [show i.toNat = 40 by omega]
theorem okB_nil : OkB [] := fun l hl => by cases hl
end Go.Proofs.YtdfcnalkdlifiaaGreat

/-! ## G1 -/
namespace Go.Proofs.YtdfcnalkdlifiaaGreat
open Go Go.Eng Go.Pure
set_option linter.unusedVariables false
set_option maxRecDepth 100000 in
theorem countsOk_ct {w : World} {A_ks : Option Addr} {n_ks c_ks : Nat} {ks : List Int} {k : Int} (h_ks : Rd w A_ks n_ks c_ks 1 (ints .i64 ks)) (hok : (0 ≤ k ∧ k ≤ 1048576) ∧ ∀ x ∈ ks, 0 ≤ x ∧ x < k) :
    Ct Tryz.prog 94 #[.slice A_ks n_ks c_ks, .int .i64 k] w.heap.size w [] (fun v R' => ∃ A c, v = .tuple #[.slice A k.toNat c, .bool true] ∧ R' = [⟨3, 1, A, k.toNat, c, ints .i64 (cntV ks k), false⟩]) := by
  obtain rfl := h_ks.lenI
  refine fn2 Tryz.func94 rfl rfl rfl ?_
  have m_ks := h_ks.max
  have hk := hok.1
  refine w_seq ?_
  refine w_reg ?_
  refine wr_y rfl (y_assign rfl) ?_
  refine wr_y rfl (y_assign rfl) ?_
  refine wr_nil ?_
  refine w_seq ?_
  refine w_seq ?_
  refine w_reg ?_
  refine wr_y rfl (y_move rfl) ?_
  refine wr_y rfl (y_lt rfl rfl) ?_
  refine wr_y rfl (y_move rfl) ?_
  refine wr_mid 3 [(0, .slice A_ks ks.length c_ks), (1, .int .i64 k), (14, .bool (decide ((k < 0) ∨ (1048576 < k))))] [] ?_ ?_
  ·
    refine wr_case 11 rfl (fun hc1 => ?_) (fun hc1 => ?_)
    ·
      refine wr_no rfl rfl rfl rfl ?_
      refine wr_no rfl rfl rfl rfl ?_
      refine wr_y rfl (y_pickT rfl rfl) ?_
      refine wr_nil ?_
      exact ⟨(Sub.cons rfl (Sub.cons rfl (Sub.to rfl (mb_t (by first | omega | exact ⟨fun h => ⟨(by assumption), h⟩, fun h => h.2⟩ | exact .inl (by assumption) | exact ⟨.inr, fun h => h.resolve_left (by assumption)⟩ | exact ⟨fun h => h.resolve_left (by assumption), .inr⟩ | simp [*])) Sub.nil))), fun _ h => h⟩
    ·
      refine wr_yes rfl rfl ?_
      refine wr_y rfl (y_move rfl) ?_
      refine wr_yes rfl rfl ?_
      refine wr_y rfl (y_gt rfl rfl) ?_
      refine wr_y rfl (y_pickF rfl rfl) ?_
      refine wr_nil ?_
      exact ⟨(Sub.cons rfl (Sub.cons rfl (Sub.to rfl (mb (by first | omega | exact ⟨fun h => ⟨(by assumption), h⟩, fun h => h.2⟩ | exact .inl (by assumption) | exact ⟨.inr, fun h => h.resolve_left (by assumption)⟩ | exact ⟨fun h => h.resolve_left (by assumption), .inr⟩ | simp [*])) Sub.nil))), fun _ h => h⟩
  refine wr_setF 14 rfl (by omega) ?_
  refine wr_nil ?_
  refine w_false rfl ?_
  refine w_skip ?_
  refine w_seq ?_
  refine w_reg ?_
  refine wr_y rfl (y_move rfl) ?_
  refine wr_a rfl (a_makeN Tryz.underlying24 zb3 rfl rfl (by omega) (by omega) (by omega)) ?_
  rintro _ _ ⟨g_1, rfl, rfl⟩
  refine wr_rows (R1 := [⟨3, 1, (some ⟨g_1, 0, none⟩), ((k).toNat), ((k).toNat), ints .i64 (List.replicate ((k).toNat) (0 : Int)), false⟩]) rfl ?_
  refine wr_as (v := .slice (some ⟨g_1, 0, none⟩) ((k).toNat) ((k).toNat)) rfl ?_
  refine wr_y rfl (y_assign rfl) ?_
  refine wr_nil ?_
  refine w_seq ?_
  refine w_seq ?_
  refine w_reg ?_
  refine wr_y rfl (y_move rfl) ?_
  refine wr_y rfl (y_len Tryz.underlying24 rfl) ?_
  refine wr_y rfl (y_move rfl) ?_
  refine wr_nil ?_
  refine w_block ?_
  refine w_loop2 (fun (m : Int) (V : List Int) => [(1, .int .i64 k), (6, .slice (some ⟨g_1, 0, none⟩) ((k).toNat) ((k).toNat)), (17, .slice A_ks ks.length c_ks), (18, .int .i64 ((ks.length : Nat) : Int)), (19, .int .i64 m)]) (fun (m : Int) (V : List Int) => [⟨3, 1, (some ⟨g_1, 0, none⟩), ((k).toNat), ((k).toNat), ints .i64 V, false⟩]) (fun (m : Int) (V : List Int) => (0 ≤ m) ∧ (m ≤ ks.length) ∧ (V = cntV (ks.take m.toNat) k)) (fun (m : Int) (V : List Int) => (ks.length - m).toNat) ?_ ?_
  ·
    exact ⟨0, List.replicate ((k).toNat) (0 : Int), ⟨(by omega), (by omega), ((cntV_nil k).symm)⟩, (Sub.cons rfl (Sub.cons rfl (Sub.cons rfl (Sub.cons rfl (Sub.cons rfl Sub.nil))))), fun _ h => h⟩
  intro m V ⟨hm0, hm1, hV⟩
  refine w_seq ?_
  refine w_reg ?_
  refine wr_y rfl (y_lt rfl rfl) ?_
  refine wr_nil ?_
  refine w_seq ?_
  refine w_if rfl (fun hc2 => ?_) (fun hc2 => ?_)
  ·
    have hx := hok.2 _ (rd_mem (L := ks) hm0 (by omega))
    have hb : 0 ≤ rd V (rd ks m) ∧ rd V (rd ks m) ≤ m := by
      have a := cntV_bound (ks := ks.take m.toNat) (k := k) (x := rd ks m)
      rw [← hV, List.length_take] at a
      omega
    refine w_skip ?_
    refine w_seq ?_
    refine w_block ?_
    refine w_seq ?_
    refine w_reg ?_
    refine wr_y rfl (y_index1 Tryz.underlying24 sz3 rfl rfl (h_ks.c _) (by omega) (by omega)) ?_
    refine wr_y rfl (y_ldI Tryz.underlying3 rfl rfl (h_ks.c _) (by omega) (by omega)) ?_
    refine wr_y rfl (y_assign rfl) ?_
    refine wr_nil ?_
    refine w_seq ?_
    refine w_seq ?_
    refine w_reg ?_
    refine wr_y rfl (y_move rfl) ?_
    refine wr_y rfl (y_lt rfl rfl) ?_
    refine wr_y rfl (y_move rfl) ?_
    refine wr_mid 4 [(1, .int .i64 k), (6, .slice (some ⟨g_1, 0, none⟩) ((k).toNat) ((k).toNat)), (8, .int .i64 (rd ks m)), (17, .slice A_ks ks.length c_ks), (18, .int .i64 ((ks.length : Nat) : Int)), (19, .int .i64 m), (29, .bool (decide (((rd ks m) < 0) ∨ (k ≤ (rd ks m)))))] [⟨3, 1, (some ⟨g_1, 0, none⟩), ((k).toNat), ((k).toNat), ints .i64 V, false⟩] ?_ ?_
    ·
      refine wr_case 25 rfl (fun hc3 => ?_) (fun hc3 => ?_)
      ·
        refine wr_no rfl rfl rfl rfl ?_
        refine wr_no rfl rfl rfl rfl ?_
        refine wr_no rfl rfl rfl rfl ?_
        refine wr_y rfl (y_pickT rfl rfl) ?_
        refine wr_nil ?_
        exact ⟨(Sub.cons rfl (Sub.cons rfl (Sub.cons rfl (Sub.cons rfl (Sub.cons rfl (Sub.cons rfl (Sub.to rfl (mb_t (by first | omega | exact ⟨fun h => ⟨(by assumption), h⟩, fun h => h.2⟩ | exact .inl (by assumption) | exact ⟨.inr, fun h => h.resolve_left (by assumption)⟩ | exact ⟨fun h => h.resolve_left (by assumption), .inr⟩ | simp [*])) Sub.nil))))))), fun _ h => h⟩
      ·
        refine wr_yes rfl rfl ?_
        refine wr_y rfl (y_move rfl) ?_
        refine wr_yes rfl rfl ?_
        refine wr_y rfl (y_move rfl) ?_
        refine wr_yes rfl rfl ?_
        refine wr_y rfl (y_ge rfl rfl) ?_
        refine wr_y rfl (y_pickF rfl rfl) ?_
        refine wr_nil ?_
        exact ⟨(Sub.cons rfl (Sub.cons rfl (Sub.cons rfl (Sub.cons rfl (Sub.cons rfl (Sub.cons rfl (Sub.to rfl (mb (by first | omega | exact ⟨fun h => ⟨(by assumption), h⟩, fun h => h.2⟩ | exact .inl (by assumption) | exact ⟨.inr, fun h => h.resolve_left (by assumption)⟩ | exact ⟨fun h => h.resolve_left (by assumption), .inr⟩ | simp [*])) Sub.nil))))))), fun _ h => h⟩
    refine wr_setF 29 rfl (by omega) ?_
    refine wr_nil ?_
    refine w_false rfl ?_
    refine w_skip ?_
    refine w_reg ?_
    refine wr_y rfl (y_move rfl) ?_
    refine wr_y rfl (y_move rfl) ?_
    refine wr_y rfl (y_index1 Tryz.underlying24 sz3 rfl rfl (rdr 0 rfl) (by omega) (by omega)) ?_
    refine wr_y rfl (y_ldI Tryz.underlying3 rfl rfl (rdr 0 rfl) (by omega) (by omega)) ?_
    refine wr_y rfl (y_addI rfl rfl (by omega)) ?_
    refine wr_y rfl (y_index1 Tryz.underlying24 sz3 rfl rfl (rdr 0 rfl) (by omega) (by omega)) ?_
    refine wr_n (a_storeI 0 rfl sz3 rfl rfl (by omega) (by omega)) ?_
    rintro _ _ rfl
    refine wr_rows (R1 := [⟨3, 1, (some ⟨g_1, 0, none⟩), ((k).toNat), ((k).toNat), ints .i64 (upd V (rd ks m) ((rd V (rd ks m)) + 1)), false⟩]) rfl ?_
    refine wr_nil ?_
    refine w_reg ?_
    refine wr_y rfl (y_addI rfl rfl (by omega)) ?_
    refine wr_y rfl (y_move rfl) ?_
    refine wr_nil ?_
    exact ⟨m + 1, upd V (rd ks m) ((rd V (rd ks m)) + 1), ⟨(by omega), (by omega), (by rw [take_rd hm0 (by omega), ← cntV_step hx.1 hx.2, ← hV])⟩, (by omega), (Sub.cons rfl (Sub.cons rfl (Sub.cons rfl (Sub.cons rfl (Sub.cons rfl Sub.nil))))), fun _ h => h⟩
  ·
    refine w_exit ?_
    refine w_seq ?_
    refine w_reg ?_
    refine wr_y rfl (y_move rfl) ?_
    refine wr_y rfl (y_assign rfl) ?_
    refine wr_y rfl (y_assign rfl) ?_
    refine wr_nil ?_
    refine w_retR (R1 := [⟨3, 1, (some ⟨g_1, 0, none⟩), ((k).toNat), ((k).toNat), ints .i64 V, false⟩]) (fun _ h => h.sel [0] (by decide) rfl) ?_
    refine ⟨_, _, rfl, rfl, ?_⟩
    have e : ks.take m.toNat = ks := List.take_of_length_le (by omega)
    rw [e] at hV
    subst hV
    exact ⟨_, _, rfl, rfl⟩

set_option maxRecDepth 100000 in
theorem starts_ct {w : World} {A_cs : Option Addr} {n_cs c_cs : Nat} {cs : List Int} (h_cs : Rd w A_cs n_cs c_cs 1 (ints .i64 cs)) (hcs : ∀ x ∈ cs, 0 ≤ x) (hsum : cs.sum ≤ 1000000000) (hcl : cs.length ≤ 1048576) :
    Ct Tryz.prog 95 #[.slice A_cs n_cs c_cs] w.heap.size w [] (fun v R' => ∃ A c, v = .slice A (startsV cs).length c ∧ R' = [⟨3, 1, A, (startsV cs).length, c, ints .i64 (startsV cs), false⟩]) := by
  obtain rfl := h_cs.lenI
  refine fn1 Tryz.func95 rfl rfl rfl ?_
  have m_cs := h_cs.max
  refine w_seq ?_
  refine w_reg ?_
  refine wr_y rfl (y_assign rfl) ?_
  refine wr_nil ?_
  refine w_seq ?_
  refine w_reg ?_
  refine wr_y rfl (y_move rfl) ?_
  refine wr_y rfl (y_len Tryz.underlying24 rfl) ?_
  refine wr_a rfl (a_makeN Tryz.underlying24 zb3 rfl rfl (by omega) (by omega) (by omega)) ?_
  rintro _ _ ⟨g_1, rfl, rfl⟩
  refine wr_rows (R1 := [⟨3, 1, (some ⟨g_1, 0, none⟩), cs.length, cs.length, ints .i64 (List.replicate cs.length (0 : Int)), false⟩]) rfl ?_
  refine wr_as (v := .slice (some ⟨g_1, 0, none⟩) cs.length cs.length) rfl ?_
  refine wr_y rfl (y_assign rfl) ?_
  refine wr_nil ?_
  refine w_seq ?_
  refine w_reg ?_
  refine wr_y rfl (y_assign rfl) ?_
  refine wr_nil ?_
  refine w_seq ?_
  refine w_seq ?_
  refine w_reg ?_
  refine wr_y rfl (y_move rfl) ?_
  refine wr_y rfl (y_len Tryz.underlying24 rfl) ?_
  refine wr_y rfl (y_move rfl) ?_
  refine wr_nil ?_
  refine w_block ?_
  refine w_loop3 (fun (i : Int) (n : Int) (V : List Int) => [(3, .slice (some ⟨g_1, 0, none⟩) cs.length cs.length), (4, .int .i64 n), (10, .slice A_cs cs.length c_cs), (11, .int .i64 ((cs.length : Nat) : Int)), (12, .int .i64 i)]) (fun (i : Int) (n : Int) (V : List Int) => [⟨3, 1, (some ⟨g_1, 0, none⟩), cs.length, cs.length, ints .i64 V, false⟩]) (fun (i : Int) (n : Int) (V : List Int) => (0 ≤ i) ∧ (i ≤ cs.length) ∧ (n = ps cs i) ∧ (V.length = cs.length) ∧ (∀ j : Int, 0 ≤ j → j < i → rd V j = ps cs j)) (fun (i : Int) (n : Int) (V : List Int) => (cs.length - i).toNat) ?_ ?_
  ·
    exact ⟨0, 0, List.replicate cs.length (0 : Int), ⟨(by omega), (by omega), (rfl), (by rw [List.length_replicate]), (fun j h1 h2 => by omega)⟩, (Sub.cons rfl (Sub.cons rfl (Sub.cons rfl (Sub.cons rfl (Sub.cons rfl Sub.nil))))), fun _ h => h⟩
  intro i n V ⟨hi0, hi1, hn, hl, hV⟩
  refine w_seq ?_
  refine w_reg ?_
  refine wr_y rfl (y_lt rfl rfl) ?_
  refine wr_nil ?_
  refine w_seq ?_
  refine w_if rfl (fun hc1 => ?_) (fun hc1 => ?_)
  ·
    have hb1 := ps_bound hcs i
    have hb2 := ps_bound hcs (i + 1)
    rw [ps_succ hi0 (by omega)] at hb2
    refine w_skip ?_
    refine w_seq ?_
    refine w_block ?_
    refine w_seq ?_
    refine w_reg ?_
    refine wr_y rfl (y_move rfl) ?_
    refine wr_y rfl (y_index1 Tryz.underlying24 sz3 rfl rfl (h_cs.c _) (by omega) (by omega)) ?_
    refine wr_y rfl (y_ldI Tryz.underlying3 rfl rfl (h_cs.c _) (by omega) (by omega)) ?_
    refine wr_y rfl (y_assign rfl) ?_
    refine wr_y rfl (y_assign rfl) ?_
    refine wr_nil ?_
    refine w_seq ?_
    refine w_reg ?_
    refine wr_y rfl (y_move rfl) ?_
    refine wr_y rfl (y_move rfl) ?_
    refine wr_y rfl (y_move rfl) ?_
    refine wr_y rfl (y_index1 Tryz.underlying24 sz3 rfl rfl (rdr 0 rfl) (by omega) (by omega)) ?_
    refine wr_n (a_storeI 0 rfl sz3 rfl rfl (by omega) (by omega)) ?_
    rintro _ _ rfl
    refine wr_rows (R1 := [⟨3, 1, (some ⟨g_1, 0, none⟩), cs.length, cs.length, ints .i64 (upd V i n), false⟩]) rfl ?_
    refine wr_nil ?_
    refine w_reg ?_
    refine wr_y rfl (y_move rfl) ?_
    refine wr_y rfl (y_move rfl) ?_
    refine wr_y rfl (y_addI rfl rfl (by omega)) ?_
    refine wr_y rfl (y_assign rfl) ?_
    refine wr_nil ?_
    refine w_reg ?_
    refine wr_y rfl (y_addI rfl rfl (by omega)) ?_
    refine wr_y rfl (y_move rfl) ?_
    refine wr_nil ?_
    exact ⟨i + 1, n + (rd cs i), upd V i n, ⟨(by omega), (by omega), (by rw [ps_succ hi0 (by omega), hn]), (by rw [upd_length]; exact hl), (fill_step hi0 (by omega) hV hn)⟩, (by omega), (Sub.cons rfl (Sub.cons rfl (Sub.cons rfl (Sub.cons rfl (Sub.cons rfl Sub.nil))))), fun _ h => h⟩
  ·
    refine w_exit ?_
    refine w_seq ?_
    refine w_reg ?_
    refine wr_y rfl (y_move rfl) ?_
    refine wr_y rfl (y_assign rfl) ?_
    refine wr_nil ?_
    refine w_retR (R1 := [⟨3, 1, (some ⟨g_1, 0, none⟩), cs.length, cs.length, ints .i64 V, false⟩]) (fun _ h => h.sel [0] (by decide) rfl) ?_
    refine ⟨_, rfl, ?_⟩
    obtain rfl : V = startsV cs := list_ext_rd (hl.trans (startsV_len cs).symm) fun j h1 h2 => by rw [rd_startsV h1 (by omega)]; exact hV j h1 (by omega)
    rw [startsV_len]
    exact ⟨_, _, rfl, rfl⟩

set_option maxRecDepth 100000 in
set_option maxHeartbeats 800000 in
theorem pass_ct {w : World} {A_order : Option Addr} {n_order c_order : Nat} {order : List Int} {A_keys : Option Addr} {n_keys c_keys : Nat} {keys : List Int} {k : Int} (h_order : Rd w A_order n_order c_order 1 (ints .i64 order)) (h_keys : Rd w A_keys n_keys c_keys 1 (ints .i64 keys)) (hk : 0 ≤ k ∧ k ≤ 1048576) (hkeys : ∀ x ∈ keys, 0 ≤ x ∧ x < k) (ho : ∀ i ∈ order, 0 ≤ i ∧ i < keys.length) (hlen : order.length ≤ 1000000) :
    Ct Tryz.prog 66 #[.slice A_order n_order c_order, .slice A_keys n_keys c_keys, .int .i64 k] w.heap.size w [] (fun v R' => ∃ A c, v = .tuple #[.slice A order.length c, .bool true] ∧ R' = [⟨3, 1, A, order.length, c, ints .i64 (passK order keys k.toNat), false⟩]) := by
  obtain rfl := h_order.lenI
  obtain rfl := h_keys.lenI
  refine fn2 Tryz.func66 rfl rfl rfl ?_
  have m_order := h_order.max
  have m_keys := h_keys.max
  have hko : ∀ i ∈ order, 0 ≤ rd keys i ∧ rd keys i < k := fun i hi => hkeys _ (rd_mem (ho i hi).1 (ho i hi).2)
  refine w_seq ?_
  refine w_reg ?_
  refine wr_y rfl (y_assign rfl) ?_
  refine wr_y rfl (y_assign rfl) ?_
  refine wr_nil ?_
  refine w_seq ?_
  refine w_seq ?_
  refine w_reg ?_
  refine wr_y rfl (y_move rfl) ?_
  refine wr_y rfl (y_move rfl) ?_
  refine wr_a rfl (a_callF en94 rfl (Ct.fresh (fun w hw => countsOk_ct ((h_keys.c _) w hw) ⟨hk, hkeys⟩))) ?_
  rintro _ _ ⟨_, rfl, A_1, c_2, rfl, rfl⟩
  refine wr_y rfl (y_move rfl) ?_
  refine wr_y rfl (y_extract rfl rfl) ?_
  refine wr_y rfl (y_extract rfl rfl) ?_
  refine wr_y rfl (y_assign rfl) ?_
  refine wr_y rfl (y_assign rfl) ?_
  refine wr_nil ?_
  refine w_seq ?_
  refine w_reg ?_
  refine wr_y rfl (y_move rfl) ?_
  refine wr_y rfl (y_not rfl) ?_
  refine wr_nil ?_
  refine w_false rfl ?_
  refine w_skip ?_
  refine w_seq ?_
  refine w_reg ?_
  refine wr_y rfl (y_move rfl) ?_
  refine wr_a rfl (a_makeN Tryz.underlying24 zb3 rfl rfl (by omega) (by omega) (by omega)) ?_
  rintro _ _ ⟨g_4, rfl, rfl⟩
  refine wr_rows (R1 := [⟨3, 1, (some ⟨g_4, 0, none⟩), ((k).toNat), ((k).toNat), ints .i64 (List.replicate ((k).toNat) (0 : Int)), false⟩, ⟨3, 1, A_1, ((k).toNat), c_2, ints .i64 (cntV keys k), false⟩]) rfl ?_
  refine wr_as (v := .slice (some ⟨g_4, 0, none⟩) ((k).toNat) ((k).toNat)) rfl ?_
  refine wr_y rfl (y_assign rfl) ?_
  refine wr_nil ?_
  refine w_seq ?_
  refine w_seq ?_
  refine w_reg ?_
  refine wr_y rfl (y_move rfl) ?_
  refine wr_y rfl (y_len Tryz.underlying24 rfl) ?_
  refine wr_y rfl (y_move rfl) ?_
  refine wr_nil ?_
  refine w_block ?_
  refine w_loop2 (fun (m : Int) (V : List Int) => [(0, .slice A_order order.length c_order), (1, .slice A_keys keys.length c_keys), (10, .slice (some ⟨g_4, 0, none⟩) ((k).toNat) ((k).toNat)), (27, .slice A_order order.length c_order), (28, .int .i64 ((order.length : Nat) : Int)), (29, .int .i64 m)]) (fun (m : Int) (V : List Int) => [⟨3, 1, (some ⟨g_4, 0, none⟩), ((k).toNat), ((k).toNat), ints .i64 V, false⟩, ⟨3, 1, A_1, ((k).toNat), c_2, ints .i64 (cntV keys k), false⟩]) (fun (m : Int) (V : List Int) => (0 ≤ m) ∧ (m ≤ order.length) ∧ (V = cntV ((order.take m.toNat).map (rd keys)) k)) (fun (m : Int) (V : List Int) => (order.length - m).toNat) ?_ ?_
  ·
    exact ⟨0, List.replicate ((k).toNat) (0 : Int), ⟨(by omega), (by omega), ((cntV_nil k).symm)⟩, (Sub.cons rfl (Sub.cons rfl (Sub.cons rfl (Sub.cons rfl (Sub.cons rfl (Sub.cons rfl Sub.nil)))))), fun _ h => h⟩
  intro m V ⟨hm0, hm1, hV⟩
  refine w_seq ?_
  refine w_reg ?_
  refine wr_y rfl (y_lt rfl rfl) ?_
  refine wr_nil ?_
  refine w_seq ?_
  refine w_if rfl (fun hc1 => ?_) (fun hc1 => ?_)
  ·
    have hi := ho _ (rd_mem (L := order) hm0 (by omega))
    have hx := hko _ (rd_mem (L := order) hm0 (by omega))
    have hb : 0 ≤ rd V (rd keys (rd order m)) ∧ rd V (rd keys (rd order m)) ≤ m := by
      have a := cntV_bound (ks := (order.take m.toNat).map (rd keys)) (k := k) (x := rd keys (rd order m))
      rw [← hV, List.length_map, List.length_take] at a
      omega
    have hVl : V.length = k.toNat := by rw [hV, cntV_len]
    refine w_skip ?_
    refine w_seq ?_
    refine w_block ?_
    refine w_seq ?_
    refine w_reg ?_
    refine wr_y rfl (y_index1 Tryz.underlying24 sz3 rfl rfl (h_order.c _) (by omega) (by omega)) ?_
    refine wr_y rfl (y_ldI Tryz.underlying3 rfl rfl (h_order.c _) (by omega) (by omega)) ?_
    refine wr_y rfl (y_assign rfl) ?_
    refine wr_nil ?_
    refine w_seq ?_
    refine w_seq ?_
    refine w_reg ?_
    refine wr_y rfl (y_move rfl) ?_
    refine wr_y rfl (y_lt rfl rfl) ?_
    refine wr_y rfl (y_move rfl) ?_
    refine wr_mid 5 [(0, .slice A_order order.length c_order), (1, .slice A_keys keys.length c_keys), (10, .slice (some ⟨g_4, 0, none⟩) ((k).toNat) ((k).toNat)), (12, .int .i64 (rd order m)), (27, .slice A_order order.length c_order), (28, .int .i64 ((order.length : Nat) : Int)), (29, .int .i64 m), (40, .bool (decide (((rd order m) < 0) ∨ (((keys.length : Nat) : Int) ≤ (rd order m)))))] [⟨3, 1, (some ⟨g_4, 0, none⟩), ((k).toNat), ((k).toNat), ints .i64 V, false⟩, ⟨3, 1, A_1, ((k).toNat), c_2, ints .i64 (cntV keys k), false⟩] ?_ ?_
    ·
      refine wr_case 35 rfl (fun hc2 => ?_) (fun hc2 => ?_)
      ·
        refine wr_no rfl rfl rfl rfl ?_
        refine wr_no rfl rfl rfl rfl ?_
        refine wr_no rfl rfl rfl rfl ?_
        refine wr_no rfl rfl rfl rfl ?_
        refine wr_y rfl (y_pickT rfl rfl) ?_
        refine wr_nil ?_
        exact ⟨(Sub.cons rfl (Sub.cons rfl (Sub.cons rfl (Sub.cons rfl (Sub.cons rfl (Sub.cons rfl (Sub.cons rfl (Sub.to rfl (mb_t (by first | omega | exact ⟨fun h => ⟨(by assumption), h⟩, fun h => h.2⟩ | exact .inl (by assumption) | exact ⟨.inr, fun h => h.resolve_left (by assumption)⟩ | exact ⟨fun h => h.resolve_left (by assumption), .inr⟩ | simp [*])) Sub.nil)))))))), fun _ h => h⟩
      ·
        refine wr_yes rfl rfl ?_
        refine wr_y rfl (y_move rfl) ?_
        refine wr_yes rfl rfl ?_
        refine wr_y rfl (y_move rfl) ?_
        refine wr_yes rfl rfl ?_
        refine wr_y rfl (y_len Tryz.underlying24 rfl) ?_
        refine wr_yes rfl rfl ?_
        refine wr_y rfl (y_ge rfl rfl) ?_
        refine wr_y rfl (y_pickF rfl rfl) ?_
        refine wr_nil ?_
        exact ⟨(Sub.cons rfl (Sub.cons rfl (Sub.cons rfl (Sub.cons rfl (Sub.cons rfl (Sub.cons rfl (Sub.cons rfl (Sub.to rfl (mb (by first | omega | exact ⟨fun h => ⟨(by assumption), h⟩, fun h => h.2⟩ | exact .inl (by assumption) | exact ⟨.inr, fun h => h.resolve_left (by assumption)⟩ | exact ⟨fun h => h.resolve_left (by assumption), .inr⟩ | simp [*])) Sub.nil)))))))), fun _ h => h⟩
    refine wr_setF 40 rfl (by omega) ?_
    refine wr_nil ?_
    refine w_false rfl ?_
    refine w_skip ?_
    refine w_reg ?_
    refine wr_y rfl (y_move rfl) ?_
    refine wr_y rfl (y_move rfl) ?_
    refine wr_y rfl (y_move rfl) ?_
    refine wr_y rfl (y_index1 Tryz.underlying24 sz3 rfl rfl (h_keys.c _) (by omega) (by omega)) ?_
    refine wr_y rfl (y_ldI Tryz.underlying3 rfl rfl (h_keys.c _) (by omega) (by omega)) ?_
    refine wr_y rfl (y_index1 Tryz.underlying24 sz3 rfl rfl (rdr 0 rfl) (by omega) (by omega)) ?_
    refine wr_y rfl (y_ldI Tryz.underlying3 rfl rfl (rdr 0 rfl) (by omega) (by omega)) ?_
    refine wr_y rfl (y_addI rfl rfl (by omega)) ?_
    refine wr_y rfl (y_index1 Tryz.underlying24 sz3 rfl rfl (rdr 0 rfl) (by omega) (by omega)) ?_
    refine wr_n (a_storeI 0 rfl sz3 rfl rfl (by omega) (by omega)) ?_
    rintro _ _ rfl
    refine wr_rows (R1 := [⟨3, 1, (some ⟨g_4, 0, none⟩), ((k).toNat), ((k).toNat), ints .i64 (upd V (rd keys (rd order m)) ((rd V (rd keys (rd order m))) + 1)), false⟩, ⟨3, 1, A_1, ((k).toNat), c_2, ints .i64 (cntV keys k), false⟩]) rfl ?_
    refine wr_nil ?_
    refine w_reg ?_
    refine wr_y rfl (y_addI rfl rfl (by omega)) ?_
    refine wr_y rfl (y_move rfl) ?_
    refine wr_nil ?_
    exact ⟨m + 1, upd V (rd keys (rd order m)) ((rd V (rd keys (rd order m))) + 1), ⟨(by omega), (by omega), (by rw [take_rd hm0 (by omega), List.map_append, List.map_singleton, ← cntV_step hx.1 hx.2, ← hV])⟩, (by omega), (Sub.cons rfl (Sub.cons rfl (Sub.cons rfl (Sub.cons rfl (Sub.cons rfl (Sub.cons rfl Sub.nil)))))), fun _ h => h⟩
  ·
    have hV2 : V = (cntV (order.map (rd keys)) k) := by rw [hV, List.take_of_length_le (by omega)]
    have hSl : (startsV V).length = k.toNat := by rw [startsV_len, hV, cntV_len]
    refine w_exit ?_
    refine w_seq ?_
    refine w_reg ?_
    refine wr_y rfl (y_move rfl) ?_
    refine wr_a rfl (a_callF en95 rfl (Ct.fresh (fun w hw => starts_ct ((rdr 0 rfl) w hw) (by rw [hV2]; exact cntV_nonneg _ _) (by rw [hV2, cntV_sum (by omega) hko]; omega) (by rw [hV2, cntV_len]; omega)))) ?_
    rintro _ _ ⟨_, rfl, A_5, c_6, rfl, rfl⟩
    refine wr_y rfl (y_assign rfl) ?_
    refine wr_nil ?_
    refine w_seq ?_
    refine w_reg ?_
    refine wr_y rfl (y_move rfl) ?_
    refine wr_y rfl (y_len Tryz.underlying24 rfl) ?_
    refine wr_a rfl (a_makeN Tryz.underlying24 zb3 rfl rfl (by omega) (by omega) (by omega)) ?_
    rintro _ _ ⟨g_7, rfl, rfl⟩
    refine wr_rows (R1 := [⟨3, 1, (some ⟨g_7, 0, none⟩), order.length, order.length, ints .i64 (List.replicate order.length (0 : Int)), false⟩, ⟨3, 1, A_5, (startsV V).length, c_6, ints .i64 (startsV V), false⟩, ⟨3, 1, (some ⟨g_4, 0, none⟩), ((k).toNat), ((k).toNat), ints .i64 V, false⟩, ⟨3, 1, A_1, ((k).toNat), c_2, ints .i64 (cntV keys k), false⟩]) rfl ?_
    refine wr_as (v := .slice (some ⟨g_7, 0, none⟩) order.length order.length) rfl ?_
    refine wr_y rfl (y_assign rfl) ?_
    refine wr_nil ?_
    refine w_seq ?_
    refine w_seq ?_
    refine w_reg ?_
    refine wr_y rfl (y_move rfl) ?_
    refine wr_y rfl (y_len Tryz.underlying24 rfl) ?_
    refine wr_y rfl (y_move rfl) ?_
    refine wr_nil ?_
    refine w_block ?_
    refine w_loop3 (fun (q : Int) (S : List Int) (Lr : List Int) => [(1, .slice A_keys keys.length c_keys), (13, .slice A_5 ((startsV V).length) c_6), (14, .slice (some ⟨g_7, 0, none⟩) order.length order.length), (56, .slice A_order order.length c_order), (57, .int .i64 ((order.length : Nat) : Int)), (58, .int .i64 q)]) (fun (q : Int) (S : List Int) (Lr : List Int) => [⟨3, 1, (some ⟨g_7, 0, none⟩), order.length, order.length, ints .i64 Lr, false⟩, ⟨3, 1, A_5, (startsV V).length, c_6, ints .i64 S, false⟩, ⟨3, 1, (some ⟨g_4, 0, none⟩), ((k).toNat), ((k).toNat), ints .i64 V, false⟩, ⟨3, 1, A_1, ((k).toNat), c_2, ints .i64 (cntV keys k), false⟩]) (fun (q : Int) (S : List Int) (Lr : List Int) => (0 ≤ q) ∧ (q ≤ order.length) ∧ (PassI order keys S Lr k q)) (fun (q : Int) (S : List Int) (Lr : List Int) => (order.length - q).toNat) ?_ ?_
    ·
      exact ⟨0, startsV V, List.replicate order.length (0 : Int), ⟨(by omega), (by omega), (by rw [hV2]; exact passI_zero)⟩, (Sub.cons rfl (Sub.cons rfl (Sub.cons rfl (Sub.cons rfl (Sub.cons rfl (Sub.cons rfl Sub.nil)))))), fun _ h => h⟩
    intro q S Lr ⟨hq0, hq1, hP⟩
    refine w_seq ?_
    refine w_reg ?_
    refine wr_y rfl (y_lt rfl rfl) ?_
    refine wr_nil ?_
    refine w_seq ?_
    refine w_if rfl (fun hc3 => ?_) (fun hc3 => ?_)
    ·
      have hi := ho _ (rd_mem (L := order) hq0 (by omega))
      have hx := hko _ (rd_mem (L := order) hq0 (by omega))
      have hlt := hP.lt hko hq0 (by omega)
      have hl1 := hP.len
      have hl2 := hP.alen
      refine w_skip ?_
      refine w_seq ?_
      refine w_block ?_
      refine w_seq ?_
      refine w_reg ?_
      refine wr_y rfl (y_index1 Tryz.underlying24 sz3 rfl rfl (h_order.c _) (by omega) (by omega)) ?_
      refine wr_y rfl (y_ldI Tryz.underlying3 rfl rfl (h_order.c _) (by omega) (by omega)) ?_
      refine wr_y rfl (y_assign rfl) ?_
      refine wr_nil ?_
      refine w_seq ?_
      refine w_reg ?_
      refine wr_y rfl (y_move rfl) ?_
      refine wr_y rfl (y_move rfl) ?_
      refine wr_y rfl (y_move rfl) ?_
      refine wr_y rfl (y_move rfl) ?_
      refine wr_y rfl (y_index1 Tryz.underlying24 sz3 rfl rfl (h_keys.c _) (by omega) (by omega)) ?_
      refine wr_y rfl (y_ldI Tryz.underlying3 rfl rfl (h_keys.c _) (by omega) (by omega)) ?_
      refine wr_y rfl (y_index1 Tryz.underlying24 sz3 rfl rfl (rdr 1 rfl) (by omega) (by omega)) ?_
      refine wr_y rfl (y_ldI Tryz.underlying3 rfl rfl (rdr 1 rfl) (by omega) (by omega)) ?_
      refine wr_y rfl (y_move rfl) ?_
      refine wr_y rfl (y_index1 Tryz.underlying24 sz3 rfl rfl (rdr 0 rfl) (by omega) (by omega)) ?_
      refine wr_n (a_storeI 0 rfl sz3 rfl rfl (by omega) (by omega)) ?_
      rintro _ _ rfl
      refine wr_rows (R1 := [⟨3, 1, (some ⟨g_7, 0, none⟩), order.length, order.length, ints .i64 (upd Lr (rd S (rd keys (rd order q))) (rd order q)), false⟩, ⟨3, 1, A_5, (startsV V).length, c_6, ints .i64 S, false⟩, ⟨3, 1, (some ⟨g_4, 0, none⟩), ((k).toNat), ((k).toNat), ints .i64 V, false⟩, ⟨3, 1, A_1, ((k).toNat), c_2, ints .i64 (cntV keys k), false⟩]) rfl ?_
      refine wr_nil ?_
      refine w_reg ?_
      refine wr_y rfl (y_move rfl) ?_
      refine wr_y rfl (y_move rfl) ?_
      refine wr_y rfl (y_move rfl) ?_
      refine wr_y rfl (y_index1 Tryz.underlying24 sz3 rfl rfl (h_keys.c _) (by omega) (by omega)) ?_
      refine wr_y rfl (y_ldI Tryz.underlying3 rfl rfl (h_keys.c _) (by omega) (by omega)) ?_
      refine wr_y rfl (y_index1 Tryz.underlying24 sz3 rfl rfl (rdr 1 rfl) (by omega) (by omega)) ?_
      refine wr_y rfl (y_ldI Tryz.underlying3 rfl rfl (rdr 1 rfl) (by omega) (by omega)) ?_
      refine wr_y rfl (y_addI rfl rfl (by omega)) ?_
      refine wr_y rfl (y_index1 Tryz.underlying24 sz3 rfl rfl (rdr 1 rfl) (by omega) (by omega)) ?_
      refine wr_n (a_storeI 1 rfl sz3 rfl rfl (by omega) (by omega)) ?_
      rintro _ _ rfl
      refine wr_rows (R1 := [⟨3, 1, (some ⟨g_7, 0, none⟩), order.length, order.length, ints .i64 (upd Lr (rd S (rd keys (rd order q))) (rd order q)), false⟩, ⟨3, 1, A_5, (startsV V).length, c_6, ints .i64 (upd S (rd keys (rd order q)) ((rd S (rd keys (rd order q))) + 1)), false⟩, ⟨3, 1, (some ⟨g_4, 0, none⟩), ((k).toNat), ((k).toNat), ints .i64 V, false⟩, ⟨3, 1, A_1, ((k).toNat), c_2, ints .i64 (cntV keys k), false⟩]) rfl ?_
      refine wr_nil ?_
      refine w_reg ?_
      refine wr_y rfl (y_addI rfl rfl (by omega)) ?_
      refine wr_y rfl (y_move rfl) ?_
      refine wr_nil ?_
      exact ⟨q + 1, upd S (rd keys (rd order q)) ((rd S (rd keys (rd order q))) + 1), upd Lr (rd S (rd keys (rd order q))) (rd order q), ⟨(by omega), (by omega), (hP.step hko hq0 (by omega))⟩, (by omega), (Sub.cons rfl (Sub.cons rfl (Sub.cons rfl (Sub.cons rfl (Sub.cons rfl (Sub.cons rfl Sub.nil)))))), fun _ h => h⟩
    ·
      refine w_exit ?_
      refine w_seq ?_
      refine w_reg ?_
      refine wr_y rfl (y_move rfl) ?_
      refine wr_y rfl (y_assign rfl) ?_
      refine wr_y rfl (y_assign rfl) ?_
      refine wr_nil ?_
      refine w_retR (R1 := [⟨3, 1, (some ⟨g_7, 0, none⟩), order.length, order.length, ints .i64 Lr, false⟩]) (fun _ h => h.sel [0] (by decide) rfl) ?_
      refine ⟨_, _, rfl, rfl, ?_⟩
      have e := hP.done hko (by omega)
      subst e
      exact ⟨_, _, rfl, rfl⟩

end Go.Proofs.YtdfcnalkdlifiaaGreat

/-! ## Q14 -/
namespace Go.Pure
open Go Go.Eng
/-- A row of numbers, with nought behind its end. -/
def pad (m : Int) (l : List Int) (d : Nat) : Int := if d < l.length then lt l d - m + 1 else 0
/-- A number that is no more than any. -/
def lo (s : List Int) : Int := s.foldr min 0
/-- An ending, with nought behind its end. -/
def eu (s : List Int) (i d : Nat) : Int := if i + d < s.length then lt s (i + d) - lo s + 1 else 0
/-- The first h numbers of an ending. -/
def cutE (s : List Int) (i h : Nat) : List Int := (s.drop i).take h
/-- How many of the places have an ending that begins with less. -/
def rkS (s : List Int) (h i : Nat) : Nat := (List.range s.length).countP fun k => decide (cmpL (cutE s k h) (cutE s i h) < 0)
/-- The rank so many places on, and one; nought behind the end. -/
def rkOn (s : List Int) (n i : Nat) : Nat := if i < s.length then rkS s n i + 1 else 0
end Go.Pure

/-! ## Q16 -/
namespace Go.Pure
open Go Go.Eng
/-- The places 0 .. n-1. -/
def iota (n : Nat) : List Int := (List.range n).map fun i : Nat => (i : Int)
theorem iota_len (n : Nat) : (iota n).length = n := by simp [iota]
theorem mem_iota {n : Nat} {x : Int} : x ∈ iota n ↔ 0 ≤ x ∧ x < n := by
  unfold iota
  rw [List.mem_map]
  constructor
  · rintro ⟨i, hi, rfl⟩
    have := List.mem_range.1 hi
    omega
  · intro h
    exact ⟨x.toNat, List.mem_range.2 (by omega), by omega⟩
theorem iota_succ {n : Int} (h : 0 ≤ n) : iota (n + 1).toNat = iota n.toNat ++ [n] := by
  unfold iota
  rw [show (n + 1).toNat = n.toNat + 1 by omega, List.range_succ, List.map_append]
  simp only [List.map_cons, List.map_nil]
  rw [show ((n.toNat : Nat) : Int) = n by omega]
/-- The order of endings. -/
def ordE (s : List Int) (x y : Int) : Prop := LtH s.length (eu s x.toNat) (eu s y.toNat)
/-- All ranks, asx a row. -/
def rkL (s : List Int) (h : Nat) : List Int := (List.range s.length).map fun i => (rkS s h i : Int)
def onL (s : List Int) (n b : Nat) : List Int := (List.range s.length).map fun i => (rkOn s n (i + b) : Int)
/-- The order by both keys. -/
def joinO (s : List Int) (n b : Nat) : List Int := passK (passK (iota s.length) (onL s n b) (s.length + 1)) (rkL s n) s.length
end Go.Pure

/-! ## Q17 -/
namespace Go.Pure
open Go Go.Eng
/-- The rank so many places on, and one; nought behind the end. -/
def onF (l : List Int) (i h : Int) : Int := if (l.length : Int) ≤ i + h then 0 else rd l (i + h) + 1
section
variable {s V : List Int} {n b : Nat} {p : Int}
end
end Go.Pure

/-! ## Q20 -/
namespace Go.Pure
open Go Go.Eng
theorem iota_nodup (n : Nat) : (iota n).Nodup := by
  unfold iota
  exact List.pairwise_map.2 (List.nodup_range.imp fun {x y} h hh => h (by omega))
end Go.Pure

/-! ## E20 -/
namespace Go.Eng
open Go Go.RowKit
def bools (l : List Bool) : List Value := l.map Value.bool
def rdb (l : List Bool) (i : Int) : Bool := l.getD i.toNat false
def updB (l : List Bool) (i : Int) (v : Bool) : List Bool := l.set i.toNat v
theorem bools_length (l : List Bool) : (bools l).length = l.length := by simp [bools]
theorem bools_upd (l : List Bool) (i : Int) (v : Bool) : (bools l).set i.toNat (.bool v) = bools (updB l i v) := by simp [bools, updB, List.map_set]
theorem bools_at {l : List Bool} {i : Int} (h0 : 0 ≤ i) (h : i < l.length) : (bools l)[i.toNat]? = some (.bool (rdb l i)) := by
  have hl : i.toNat < l.length := by omega
  simp [bools, rdb, List.getD_eq_getElem?_getD, List.getElem?_eq_getElem hl]
theorem rep_bools (m : Nat) (x : Bool) : List.replicate m (Value.bool x) = bools (List.replicate m x) := by simp [bools]
theorem updB_len (l : List Bool) (i : Int) (v : Bool) : (updB l i v).length = l.length := by simp [updB]
theorem rdb_upd {l : List Bool} {i j : Int} {v : Bool} (h0 : 0 ≤ i) (h : i < l.length) (j0 : 0 ≤ j) : rdb (updB l i v) j = if j = i then v else rdb l j := by
  unfold rdb updB
  rw [List.getD_eq_getElem?_getD, List.getElem?_set, List.getD_eq_getElem?_getD]
  by_cases e : j = i
  · subst e
    rw [if_pos rfl, if_pos (by omega), if_pos rfl]
    rfl
  · rw [if_neg (by omega), if_neg e]
theorem rdb_rep (m : Nat) (i : Int) : rdb (List.replicate m false) i = false := by
  unfold rdb
  rw [List.getD_eq_getElem?_getD, List.getElem?_replicate]
  split <;> rfl
section
variable {P : Program} {n : Nd} {B : Nat} {w0 : World} {L : Env} {R : List Row} {ty : TypeId}
theorem Rd.lenB {w : World} {A : Option Addr} {m c : Nat} {l : List Bool} (h : Rd w A m c 1 (bools l)) : m = l.length := by
  have := h.len
  rw [bools_length] at this
  omega
theorem y_ldB {x : Operand} {t : TypeId} {d : TypeDesc} {A : Option Addr} {m c : Nat} {l : List Bool} {i : Int} (hu : P.underlying t = some d) (hd : aggB d = false) (hx : ev L x = some (.pointer (pat A i.toNat))) (hr : RdC B w0 R A m c 1 (bools l)) (h0 : 0 ≤ i) (h1 : i < m) :
    Yl P n B w0 (.load t x) ty L R (.bool (decide (rdb l i = true))) := by
  intro a w o ho hty hs hw
  have hl := (hr w hw).lenB
  rw [show decide (rdb l i = true) = rdb l i by cases rdb l i <;> rfl]
  exact y_ld hu hd hx rfl hr (bools_at h0 (by omega)) a w o ho hty hs hw
theorem a_storeB {x y : Operand} {t e : TypeId} {j : Int} {v : Bool} {A : Option Addr} {m c : Nat} {l : List Bool} (i : Nat) (hi : R[i]? = some ⟨e, 1, A, m, c, bools l, false⟩) (hst : (P.info? t).map (·.size) = some 1) (hx : ev L x = some (.pointer (pat A j.toNat))) (hy : ev L y = some (.bool v)) (h0 : 0 ≤ j) (h1 : j < m) :
    Ac P n B w0 (.store t x y) ty L R (fun _ R' => R' = R.set i ⟨e, 1, A, m, c, bools (updB l j v), false⟩) := by
  intro a w o K Q ho hty hs hp hk
  have hown := Row.lies_w (hp.own _ (List.mem_of_getElem? hi)) rfl
  have hrd := Row.rd (hp.own _ (List.mem_of_getElem? hi))
  have hl := hrd.len
  obtain ⟨g, hA⟩ : ∃ g, A = some ⟨g, 0, none⟩ := by
    rcases hown.2 with ⟨_, hn⟩ | ⟨g, cap, cur, hv, _⟩
    · simp only at hn; omega
    · simp only [Value.slice.injEq] at hv
      exact ⟨g, hv.1⟩
  have := a_store (P := P) (n := n) (B := B) (w0 := w0) (ty := ty) i hi rfl hA hst hx rfl hy rfl rfl (by rw [hl]; simp only; omega)
  simp only [bools_upd] at this
  exact this a w o K Q ho hty hs hp hk
theorem a_makeB {x y : Operand} {t e : TypeId} {bytes : Nat} {m : Int} (ht : P.underlying t = some (.slice e)) (hinfo : (P.info? e).map (fun i => (i.zero, i.size, i.bytes)) = some (some (.bool false), 1, bytes))
    (hx : ev L x = some (.int .i64 m)) (hy : ev L y = some (.int .i64 m)) (h0 : 0 ≤ m) (hm : m * bytes ≤ 281474976710656) (hm' : m ≤ 9223372036854775807) :
    Ac P n B w0 (.makeSlice t x y) ty L R (fun v R' => ∃ g, v = .slice (some ⟨g, 0, none⟩) m.toNat m.toNat ∧ R' = ⟨e, 1, some ⟨g, 0, none⟩, m.toNat, m.toNat, bools (List.replicate m.toNat false), false⟩ :: R) := by
  have := a_makeI (P := P) (n := n) (B := B) (w0 := w0) (L := L) (R := R) (ty := ty) ht hinfo rfl hx hy h0 hm hm'
  simpa only [rep_bools] using this
end
end Go.Eng

/-! ## Q25 -/
/-
  Plain laws: small and large endings; buckets. Own work.
-/
namespace Go.Pure
open Go Go.Eng
/-- Is the ending at i less than the next one? -/
def smB (s : List Int) (i : Int) : Bool := decide (cmpL (s.drop i.toNat) (s.drop (i + 1).toNat) < 0)
def isL (s : List Int) (p : Int) : Prop := (0 ≤ p ∧ p < s.length) ∧ smB s p = false
def isS (s : List Int) (p : Int) : Prop := (0 ≤ p ∧ p < s.length) ∧ smB s p = true
/-- The first small ones. -/
def fstB (s : List Int) (i : Int) : Bool := decide (0 < i) && smB s i && !smB s (i - 1)
def fstL (s : List Int) : List Int := (iota s.length).filter fun i => fstB s i
theorem perm_all {α : Type} [DecidableEq α] : ∀ {l m : List α}, l.Nodup → (∀ x ∈ l, x ∈ m) → m.length ≤ l.length → l.Perm m
  | [], m, _, _, h => by
    have : m = [] := List.eq_nil_of_length_eq_zero (by simpa using h)
    rw [this]
  | a :: l, m, hd, h, hl => by
    obtain ⟨h1, h2⟩ := List.nodup_cons.1 hd
    have ha := h a (by simp)
    have hp := List.length_pos_of_mem ha
    have := perm_all (l := l) (m := m.erase a) h2 (fun x hx => by
      have hxa : x ≠ a := fun e => h1 (e ▸ hx)
      exact (List.mem_erase_of_ne hxa).2 (h x (List.mem_cons_of_mem _ hx))) (by
      rw [List.length_erase_of_mem ha]
      simp only [List.length_cons] at hl
      omega)
    exact (this.cons a).trans (List.perm_cons_erase ha).symm
/-- A stretch of a row. -/
def seg (row : List Int) (a b : Int) : List Int := (List.range (b - a).toNat).map fun t : Nat => rd row (a + t)
/-- No number that is one stands twice. -/
def Once (row : List Int) : Prop := ∀ q r : Int, 0 ≤ q → q < row.length → 0 ≤ r → r < row.length → 0 ≤ rd row q → rd row q = rd row r → q = r
section
variable (s : List Int) (k : Int)
def st (c : Int) : Int := ps (cntV s k) c
def posL (c : Int) : List Int := (iota s.length).filter fun p => decide (rd s p = c) && !smB s p
def posS (c : Int) : List Int := (iota s.length).filter fun p => decide (rd s p = c) && smB s p
end
section
variable {s : List Int} {k : Int}
end
end Go.Pure
/-
  Plain laws: induced sorting: the large ones, from left to right. Own work.
-/
namespace Go.Pure
open Go Go.Eng
section
variable {s : List Int} {k : Int} {R : Int → Int → Prop}
/-- What an order of endings is to keep while the large ones are laid. -/
structure RelL (s : List Int) (R : Int → Int → Prop) : Prop where
  char : ∀ {p q : Int}, 0 ≤ p ∧ p < s.length → 0 ≤ q ∧ q < s.length → rd s p < rd s q → R p q
  ls : ∀ {p q : Int}, isL s p → isS s q → rd s p = rd s q → R p q
  last : ∀ {q : Int}, 0 < s.length → 0 ≤ q → q + 1 < s.length → rd s (s.length - 1) = rd s q → isL s q → R (s.length - 1) q
  backL : ∀ {p q : Int}, isL s p → isL s q → p + 1 < s.length → q + 1 < s.length → rd s p = rd s q → R (p + 1) (q + 1) → R p q
/-- The row that the first small ones are laid into. -/
structure BaseI (s : List Int) (k : Int) (R : Int → Int → Prop) (mF : Int → Int) (row : List Int) : Prop where
  len : row.length = s.length
  m0 : ∀ c, 0 ≤ c → c < k → 0 ≤ mF c ∧ mF c ≤ (posS s c).length
  some_ : ∀ c q, 0 ≤ c → c < k → st s k (c + 1) - mF c ≤ q → q < st s k (c + 1) → isS s (rd row q) ∧ rd s (rd row q) = c
  none_ : ∀ c q, 0 ≤ c → c < k → st s k c ≤ q → q < st s k (c + 1) - mF c → rd row q = -1
  once : Once row
  all : ∀ p : Int, 0 ≤ p → p < s.length → fstB s p = true → ∃ q : Int, 0 ≤ q ∧ q < s.length ∧ rd row q = p
  sorted : ∀ a b : Int, 0 ≤ a → a < b → b < s.length → 0 ≤ rd row a → 0 ≤ rd row b → R (rd row a) (rd row b)
structure LargeI (s : List Int) (k : Int) (R : Int → Int → Prop) (mF : Int → Int) (row0 row H : List Int) (C : Int → Prop) : Prop where
  len : row.length = s.length
  hlen : H.length = k.toNat
  hH : ∀ c, 0 ≤ c → c < k → st s k c ≤ rd H c ∧ rd H c ≤ st s k c + (posL s c).length
  placed : ∀ c q, 0 ≤ c → c < k → st s k c ≤ q → q < rd H c → isL s (rd row q) ∧ rd s (rd row q) = c
  rest : ∀ c q, 0 ≤ c → c < k → rd H c ≤ q → q < st s k (c + 1) → rd row q = rd row0 q
  once : Once row
  closed : ∀ p, isL s p → ((∃ q : Int, 0 ≤ q ∧ q < s.length ∧ rd row q = p) ↔ C p)
  sorted : ∀ a b : Int, 0 ≤ a → a < b → b < s.length → 0 ≤ rd row a → 0 ≤ rd row b → R (rd row a) (rd row b)
variable (hk : 0 ≤ k) (hs : ∀ x ∈ s, 0 ≤ x ∧ x < k) (hR : RelL s R)
variable {mF : Int → Int} {row0 row H : List Int} {C : Int → Prop}
include hk hs in
include hk hs in
include hk hs hR in
/-- Which large ones are there when the row has been read up to i. -/
def CL (s row : List Int) (i p : Int) : Prop := p = s.length - 1 ∨ ∃ q : Int, 0 ≤ q ∧ q < i ∧ rd row q = p + 1
include hk hs hR in
include hk hs in
include hk hs hR in
include hk hs in
end
end Go.Pure
/-
  Plain laws: induced sorting: the small ones, from right to left. Own work.
-/
namespace Go.Pure
open Go Go.Eng
section
variable {s : List Int} {k : Int} {R : Int → Int → Prop}
/-- What an order of endings is to keep while the small ones are laid. -/
structure RelS (s : List Int) (R : Int → Int → Prop) : Prop where
  char : ∀ {p q : Int}, 0 ≤ p ∧ p < s.length → 0 ≤ q ∧ q < s.length → rd s p < rd s q → R p q
  ls : ∀ {p q : Int}, isL s p → isS s q → rd s p = rd s q → R p q
  backS : ∀ {p q : Int}, isS s p → isS s q → p + 1 < s.length → q + 1 < s.length → rd s p = rd s q → R (p + 1) (q + 1) → R p q
/-- The row with large ones alone. -/
structure BaseS (s : List Int) (k : Int) (R : Int → Int → Prop) (T : Int → Int) (row : List Int) : Prop where
  len : row.length = s.length
  t0 : ∀ c, 0 ≤ c → c < k → st s k c ≤ T c ∧ T c ≤ st s k c + (posL s c).length
  some_ : ∀ c q, 0 ≤ c → c < k → st s k c ≤ q → q < T c → isL s (rd row q) ∧ rd s (rd row q) = c
  none_ : ∀ c q, 0 ≤ c → c < k → T c ≤ q → q < st s k (c + 1) → rd row q = -1
  once : Once row
  all : ∀ p : Int, isL s p → ∃ q : Int, 0 ≤ q ∧ q < s.length ∧ rd row q = p
  sorted : ∀ a b : Int, 0 ≤ a → a < b → b < s.length → 0 ≤ rd row a → 0 ≤ rd row b → R (rd row a) (rd row b)
structure SmallI (s : List Int) (k : Int) (R : Int → Int → Prop) (T : Int → Int) (row3 row E : List Int) (C : Int → Prop) : Prop where
  len : row.length = s.length
  elen : E.length = k.toNat
  hE : ∀ c, 0 ≤ c → c < k → st s k (c + 1) - (posS s c).length ≤ rd E c ∧ rd E c ≤ st s k (c + 1)
  placed : ∀ c q, 0 ≤ c → c < k → rd E c ≤ q → q < st s k (c + 1) → isS s (rd row q) ∧ rd s (rd row q) = c
  rest : ∀ c q, 0 ≤ c → c < k → st s k c ≤ q → q < rd E c → rd row q = rd row3 q
  once : Once row
  closed : ∀ p, isS s p → ((∃ q : Int, 0 ≤ q ∧ q < s.length ∧ rd row q = p) ↔ C p)
  sorted : ∀ a b : Int, 0 ≤ a → a < b → b < s.length → 0 ≤ rd row a → 0 ≤ rd row b → R (rd row a) (rd row b)
variable (hk : 0 ≤ k) (hs : ∀ x ∈ s, 0 ≤ x ∧ x < k) (hR : RelS s R)
variable {T : Int → Int} {row3 row E : List Int} {C : Int → Prop}
include hk hs in
include hk hs in
include hk hs hR in
/-- Which small ones are there when the row has been read from its end down to i. -/
def CS (s row : List Int) (i p : Int) : Prop := ∃ q : Int, i ≤ q ∧ q < s.length ∧ rd row q = p + 1
include hk hs in
include hk hs hR in
include hk hs in
include hk hs in
include hk hs in
end
end Go.Pure
/-
  Plain laws: induced sorting: the first small ones; all of it, asx a function. Own work.
-/
namespace Go.Pure
open Go Go.Eng
section
variable {s : List Int} {k : Int}
/-- The first small ones, laid from their row's end. -/
structure FirstI (s : List Int) (k : Int) (l : List Int) (row E : List Int) : Prop where
  len : row.length = s.length
  elen : E.length = k.toNat
  hE : ∀ c, 0 ≤ c → c < k → rd E c = st s k (c + 1) - (ofKey l s c).length
  vals : ∀ c u : Int, 0 ≤ c → c < k → 0 ≤ u → u < (ofKey l s c).length → rd row (rd E c + u) = rd (ofKey l s c) u
  none_ : ∀ c q, 0 ≤ c → c < k → st s k c ≤ q → q < rd E c → rd row q = -1
/-- May these be first ones? -/
def FirstOk (s l : List Int) : Prop := l.Nodup ∧ ∀ j ∈ l, (0 ≤ j ∧ j < s.length) ∧ fstB s j = true
variable {row E : List Int} {l : List Int} {j : Int}
theorem rd_get {l : List Int} {u : Nat} (h : u < l.length) : rd l (u : Int) = l[u] := by
  unfold rd
  rw [Int.toNat_natCast, List.getD_eq_getElem?_getD, List.getElem?_eq_getElem h]
  rfl
theorem rd_getI {l : List Int} {i : Int} (h0 : 0 ≤ i) (h : i < l.length) : rd l i = l[i.toNat]'(by omega) := by
  unfold rd
  rw [List.getD_eq_getElem?_getD, List.getElem?_eq_getElem (by omega)]
  rfl
theorem pairwise_rd {l : List Int} {r : Int → Int → Prop} (h : l.Pairwise r) {i j : Int} (h0 : 0 ≤ i) (hij : i < j) (hj : j < l.length) : r (rd l i) (rd l j) := by
  rw [rd_getI h0 (by omega), rd_getI (by omega) hj]
  exact List.pairwise_iff_getElem.1 h i.toNat j.toNat (by omega) (by omega) (by omega)
theorem rd_inj {l : List Int} (hd : l.Nodup) {i j : Int} (h0 : 0 ≤ i) (h : i < l.length) (g0 : 0 ≤ j) (g : j < l.length) (e : rd l i = rd l j) : i = j := by
  have hi : i.toNat < l.length := by omega
  have hj : j.toNat < l.length := by omega
  unfold rd at e
  rw [List.getD_eq_getElem?_getD, List.getD_eq_getElem?_getD, List.getElem?_eq_getElem hi, List.getElem?_eq_getElem hj] at e
  simp only [Option.getD_some] at e
  rcases Int.lt_trichotomy i j with a | a | a
  · exact absurd e (List.pairwise_iff_getElem.1 hd i.toNat j.toNat hi hj (by omega))
  · exact a
  · exact absurd e.symm (List.pairwise_iff_getElem.1 hd j.toNat i.toNat hj hi (by omega))
/-- The row with its small ones taken away. -/
def noS (s : List Int) (x : Int) : Int := if 0 ≤ x ∧ smB s x = true then -1 else x
def layF (s : List Int) (j : Int) (z : List Int × List Int) : List Int × List Int := (upd z.1 (rd z.2 (rd s j) - 1) j, upd z.2 (rd s j) (rd z.2 (rd s j) - 1))
def layL (s : List Int) (j : Int) (z : List Int × List Int) : List Int × List Int := (upd z.1 (rd z.2 (rd s j)) j, upd z.2 (rd s j) (rd z.2 (rd s j) + 1))
def stepL (s : List Int) (i : Int) (z : List Int × List Int) : List Int × List Int := if 0 < rd z.1 i ∧ smB s (rd z.1 i - 1) = false then layL s (rd z.1 i - 1) z else z
def stepS (s : List Int) (i : Int) (z : List Int × List Int) : List Int × List Int := if 0 < rd z.1 i ∧ smB s (rd z.1 i - 1) = true then layF s (rd z.1 i - 1) z else z
def endsV (cs : List Int) : List Int := (List.range cs.length).map fun i : Nat => ps cs ((i : Int) + 1)
def itF (s : List Int) (k : Int) (l : List Int) : List Int × List Int := l.foldr (layF s) (List.replicate s.length (-1), endsV (cntV s k))
def itL (s : List Int) (k : Int) (l : List Int) : Nat → List Int × List Int
  | 0 => layL s (s.length - 1) ((itF s k l).1, startsV (cntV s k))
  | i + 1 => stepL s i (itL s k l i)
def clrV (s row : List Int) : List Int := row.map (noS s)
def itS (s : List Int) (k : Int) (l : List Int) : Nat → List Int × List Int
  | 0 => (clrV s (itL s k l s.length).1, endsV (cntV s k))
  | m + 1 => stepS s (s.length - 1 - m) (itS s k l m)
/-- All places, by these first ones. -/
def indS (s : List Int) (k : Int) (l : List Int) : List Int := (itS s k l s.length).1
variable (hk : 0 ≤ k) (hs : ∀ x ∈ s, 0 ≤ x ∧ x < k)
include hk hs in
section
variable {R R' : Int → Int → Prop} (hR : RelL s R) (hR' : RelS s R') (hLL : ∀ p q, isL s p → isL s q → R p q → R' p q) (hσ : ∀ c, (ofKey l s c).Pairwise R)
include hk hs hR hσ in
include hk hs hR hσ hLL in
include hk hs hR hR' hσ hLL in
include hk hs hR hR' hσ hLL in
end
/-- The endings' own order, if the first ones are in it. -/
def RO (s l : List Int) (x y : Int) : Prop := l.Pairwise (ordE s) → ordE s x y
include hk hs in
include hk hs in
include hk hs in
include hk hs in
include hk hs in
end
end Go.Pure
/-
  Plain laws: induced sorting: what a walk asks of each step. Own work.
-/
namespace Go.Pure
open Go Go.Eng
section
variable {s : List Int} {k : Int} {l row E H V : List Int}
variable (hk : 0 ≤ k) (hs : ∀ x ∈ s, 0 ≤ x ∧ x < k)
include hk hs in
include hk hs in
include hk hs in
include hk hs in
include hk hs in
/-- The small ones are taken out, so far. -/
def clrP (s row : List Int) (i : Int) : List Int := (row.take i.toNat).map (noS s) ++ row.drop i.toNat
include hk hs in
include hk hs in
include hk hs in
include hk hs in
include hk hs in
/-- Of each place whether it is small. -/
def smL (s : List Int) : List Bool := (List.range s.length).map fun i : Nat => smB s (i : Int)
/-- The first ones, so far. -/
def fstP (s : List Int) (i : Int) : List Int := (iota i.toNat).filter fun i => fstB s i
end
end Go.Pure

/-! ## Q27 -/
/-
  Plain laws: pieces between the first small ones; their names; what order the names' endings say. Own work.
-/
namespace Go.Pure
open Go Go.Eng
section
variable {s : List Int} {k : Int}
theorem iota_inc (n : Nat) : (iota n).Pairwise (· < ·) := by
  unfold iota
  refine List.pairwise_map.2 (List.Pairwise.imp (fun h => ?_) List.pairwise_lt_range)
  omega
/-- A number with its kind; behind all: less than any. -/
def kk (s : List Int) (p : Int) : Int := if p < s.length then 2 * rd s p + (if smB s p = true then 1 else 0) else -1
def Nn (s : List Int) : Prop := ∀ x ∈ s, 0 ≤ x
/-- Up to the first one at x or behind it. -/
def pcL (s : List Int) (x y : Int) : Prop := ∀ d : Nat, (∀ i : Nat, i < d → kk s (x + i) = kk s (y + i) ∧ fstB s (x + i) = false) → kk s (x + d) ≤ kk s (y + d)
/-- Up to the first one behind x. -/
def pcS (s : List Int) (x y : Int) : Prop := ∀ d : Nat, (∀ i : Nat, i < d → kk s (x + i) = kk s (y + i) ∧ (0 < i → fstB s (x + i) = false)) → kk s (x + d) ≤ kk s (y + d)
def pcE (s : List Int) (x y : Int) : Prop := ∀ d : Nat, (∀ i : Nat, 0 < i → i < d → fstB s (x + i) = false) → kk s (x + d) = kk s (y + d)
/-- The next first one behind x, or the end. -/
structure NxI (s : List Int) (x z : Int) : Prop where
  gt : x < z
  le : z ≤ s.length
  no : ∀ q, x < q → q < z → fstB s q = false
  is : z < s.length → fstB s z = true
/-- The same pieces, asx the program asks. -/
def Peq (s nx : List Int) (x y : Int) : Prop := rd nx x < s.length ∧ rd nx y < s.length ∧ rd nx x - x = rd nx y - y ∧ ∀ i : Int, 0 ≤ i → i ≤ rd nx x - x → rd s (x + i) = rd s (y + i)
end
end Go.Pure
/-
  Plain laws: the names of pieces, asx the program makes them; what order their endings say. Own work.
-/
namespace Go.Pure
open Go Go.Eng
section
variable {s : List Int} {k : Int}
/-- Behind which place the next first one stands. -/
structure NxOk (s nx : List Int) (i : Int) : Prop where
  len : nx.length = s.length
  at_ : ∀ a : Int, 0 ≤ a → a < i → rd nx (rd (fstL s) a) = if a + 1 < (fstL s).length then rd (fstL s) (a + 1) else s.length
  no : ∀ j : Int, 0 ≤ j → j < s.length → fstB s j = false → rd nx j = 0
/-- Names given to the places read so far. -/
structure NamI (s ord nx : List Int) (t : Int) (nm : List Int) (n last : Int) : Prop where
  len : nm.length = s.length
  bd : 0 ≤ n ∧ n ≤ t
  start : last = -1 → n = 0 ∧ ∀ q : Int, 0 ≤ q → q < t → fstB s (rd ord q) = false
  last_ : last = -1 ∨ ∃ q : Int, 0 ≤ q ∧ q < t ∧ rd ord q = last ∧ fstB s last = true ∧ rd nm last = n ∧ ∀ r : Int, q < r → r < t → fstB s (rd ord r) = false
  rng : ∀ q : Int, 0 ≤ q → q < t → fstB s (rd ord q) = true → 0 ≤ rd nm (rd ord q) ∧ rd nm (rd ord q) ≤ n
  pair : ∀ q r : Int, 0 ≤ q → q < r → r < t → fstB s (rd ord q) = true → fstB s (rd ord r) = true → rd nm (rd ord q) ≤ rd nm (rd ord r) ∧ (rd nm (rd ord q) = rd nm (rd ord r) → Peq s nx (rd ord q) (rd ord r)) ∧ (rd nm (rd ord q) < rd nm (rd ord r) → ¬ pcE s (rd ord q) (rd ord r))
variable {ord nx nm : List Int} {t n last : Int}
end
end Go.Pure

