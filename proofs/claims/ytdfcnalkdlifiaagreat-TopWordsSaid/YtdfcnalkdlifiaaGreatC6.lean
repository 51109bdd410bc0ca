/- Several texts of our own in one: F6, E28, S4, N3, E29, N4, F2, N5, N6, Q30, H1, F7, F9, F10, Q18, F11, Q31, H2. -/
import Derived.Lib.MakeNoZero
import Derived.Ground.SlsfProg
import Derived.Shelf.SlSortCmp.NoneTotal
import Derived.Test.YtdfcnalkdlifiaaGreatProg
import Derived.Test.YtdfcnalkdlifiaaGreatC5
/-! ## F6 -/
namespace Go.Proofs.YtdfcnalkdlifiaaGreat
open Go Go.Eng Go.Pure
open Tryz
set_option linter.unusedVariables false
set_option maxRecDepth 100000 in
theorem orI_ct {w : World} {A_l : Option Addr} {n_l c_l : Nat} {l : List Int} (h_l : Rd w A_l n_l c_l 1 (ints .i64 l)) :
  Ct Tryz.prog 57 #[.slice A_l n_l c_l] w.heap.size w [] (fun v R' => v = .int .i64 (orL l)) := by
 obtain rfl := h_l.lenI
 refine fn1 Tryz.func57 rfl rfl rfl ?_
 have m_l := h_l.max
 refine wq <| wg rfl rfl <| wr_nil <| wq <| wg rfl rfl <| wr_nil <| w_seq <| wq <| wm rfl rfl <| wr_y rfl (y_len underlying24 rfl) <| wm rfl rfl <| wr_nil ?_
 refine w_block ?_
 refine w_loop1 (fun (k : Int) => [(3, .int .i64 0), (6, .slice A_l l.length c_l), (7, .int .i64 ((l.length : Nat) : Int)), (8, .int .i64 k)]) (fun (k : Int) => []) (fun (k : Int) => (0 ≤ k) ∧ (k ≤ l.length) ∧ (orL l = orL (l.drop k.toNat))) (fun (k : Int) => (l.length - k).toNat) ?_ ?_
 ·
  exact ⟨0, ⟨(by omega), (by omega), (rfl)⟩, (sc rfl (sc rfl (sc rfl (sc rfl Sub.nil)))), fun _ h => h⟩
 intro k ⟨hk0, hk1, ho⟩
 refine wq <| wL rfl rfl rfl <| wr_nil <| w_seq <| w_if rfl (fun hc1 => ?_) (fun hc1 => ?_)
 ·
  refine w_skip <| w_seq <| w_block <| wq <| wr_y rfl (y_index1 underlying24 sz3 rfl rfl (h_l.c _) (by omega) (by omega)) <| wr_y rfl (y_ldI underlying3 rfl rfl (h_l.c _) (by omega) (by omega)) <| wg rfl rfl <| wr_nil <| wq <| wm rfl rfl <| wm rfl rfl <| wr_y rfl (y_ne rfl rfl) <| wr_nil ?_
  refine w_if rfl (fun hc2 => ?_) (fun hc2 => ?_)
  ·
   refine wq <| wm rfl rfl <| wg rfl rfl <| wr_nil <| w_ret ?_
   refine ⟨_, rfl, ?_⟩
   exact congrArg (Value.int .i64) (by rw [ho, orL_hit hk0 (by omega) (by omega)])
  ·
   refine w_skip <| w_reg <| wA rfl rfl rfl (by omega) <| wm rfl rfl <| wr_nil ?_
   exact ⟨k + 1, ⟨(by omega), (by omega), (by rw [ho, orL_go hk0 (by omega) (by omega)])⟩, (by omega), (sc rfl (sc rfl (sc rfl (sc rfl Sub.nil)))), fun _ h => h⟩
 ·
  refine w_exit <| wq <| wm rfl rfl <| wg rfl rfl <| wr_nil <| w_ret ?_
  refine ⟨_, rfl, ?_⟩
  exact congrArg (Value.int .i64) (by rw [ho, List.drop_of_length_le (by omega)]; rfl)

set_option maxRecDepth 100000 in
theorem ahead_ct {w : World} {g_s : Nat} {A_w A_t A_b A_r : Option Addr} {n_t c_w c_t c_b c_r : Nat} {vals_w : List Value} {ws : List (List Int)} {bs rs : List Int} {t1 t2 : Int} {h : Int} (h_s : Rd w (some ⟨g_s, 0, none⟩) 1 1 4 [.slice A_w ws.length c_w, .slice A_t n_t c_t, .slice A_b bs.length c_b, .slice A_r rs.length c_r]) (h_w : Rd w A_w ws.length c_w 1 vals_w) (s_w : SlW .u8 w vals_w ws) (h_b : Rd w A_b bs.length c_b 1 (ints .i64 bs)) (h_r : Rd w A_r rs.length c_r 1 (ints .i64 rs)) (ha_t : 0 ≤ t1 ∧ t1 < ws.length ∧ t1 < bs.length) (hb_t : 0 ≤ t2 ∧ t2 ≤ 1000000) (hc_t : 0 < (rdl ws t1).length) (hd_t : 0 ≤ rd bs t1 ∧ rd bs t1 + (rdl ws t1).length ≤ rs.length) (hh : 0 ≤ h ∧ h ≤ 1000000) :
  Ct Tryz.prog 60 #[.pointer (some ⟨g_s, 0, none⟩), .agg #[.int .i64 t1, .int .i64 t2], .int .i64 h] w.heap.size w [] (fun v R' => v = .int .i64 (ahd ws bs rs (t1, t2) h)) := by
 refine fn1 Tryz.func60 rfl rfl rfl ?_
 have m_r := h_r.max
 have m_b := h_b.max
 have m_w := h_w.max
 have e1 := Int.emod_nonneg (t2 + h) (show ((rdl ws t1).length : Int) ≠ 0 by omega)
 have e2 := Int.emod_lt_of_pos (t2 + h) (show (0 : Int) < ((rdl ws t1).length : Int) by omega)
 refine wq <| wr_a rfl (a_box (sz := 2) rfl rfl) ?_
 rintro _ _ ⟨g_1, rfl, rfl⟩
 refine wr_rows (R1 := [⟨45, 2, (some ⟨g_1, 0, none⟩), 1, 1, [.int .i64 t1, .int .i64 t2], false⟩]) rfl <| wg rfl rfl <| wr_nil <| w_seq <| w_regd mixed <| wd_y 0 rfl (by kernel_rfl) rfl (y_move rfl) <| wd_y 1 rfl (by kernel_rfl) rfl (y_nilCheck rfl) <| wd_y 2 rfl (by kernel_rfl) rfl (y_fieldAt (off := 3) (m := 3) underlying67 rfl sz24 rfl rfl rfl) <| wd_y 3 rfl (by kernel_rfl) rfl (y_ldIn (h_s.c _) underlying24 rfl rfl rfl) <| wd_y 4 rfl (by kernel_rfl) rfl (y_move rfl) <| wd_y 5 rfl (by kernel_rfl) rfl (y_nilCheck rfl) <| wd_y 6 rfl (by kernel_rfl) rfl (y_fieldAt (off := 2) (m := 2) underlying67 rfl sz24 rfl rfl rfl) <| wd_y 7 rfl (by kernel_rfl) rfl (y_ldIn (h_s.c _) underlying24 rfl rfl rfl) <| wd_y 8 rfl (by kernel_rfl) rfl (y_indexIn (q := 0) (rdR 0 (r := ⟨45, 2, (some ⟨g_1, 0, none⟩), 1, 1, [.int .i64 t1, .int .i64 t2], false⟩) rfl) underlying45 sz3 rfl rfl (Nat.le_of_ble_eq_true rfl) (by decide) (by decide) rfl) <| wd_y 9 rfl (by kernel_rfl) rfl (y_ldIn (rdR 0 (r := ⟨45, 2, (some ⟨g_1, 0, none⟩), 1, 1, [.int .i64 t1, .int .i64 t2], false⟩) rfl) underlying3 rfl rfl rfl) ?_
 refine wd_y 10 rfl (by kernel_rfl) rfl (y_index1 underlying24 sz3 rfl rfl (h_b.c _) (by omega) (by omega)) <| wd_y 11 rfl (by kernel_rfl) rfl (y_ldI underlying3 rfl rfl (h_b.c _) (by omega) (by omega)) <| wd_y 12 rfl (by kernel_rfl) rfl (y_indexIn (q := 1) (rdR 0 (r := ⟨45, 2, (some ⟨g_1, 0, none⟩), 1, 1, [.int .i64 t1, .int .i64 t2], false⟩) rfl) underlying45 sz3 rfl rfl (Nat.le_of_ble_eq_true rfl) (by decide) (by decide) rfl) <| wd_y 13 rfl (by kernel_rfl) rfl (y_ldIn (rdR 0 (r := ⟨45, 2, (some ⟨g_1, 0, none⟩), 1, 1, [.int .i64 t1, .int .i64 t2], false⟩) rfl) underlying3 rfl rfl rfl) <| wd_y 14 rfl (by kernel_rfl) rfl (y_move rfl) <| wd_y 15 rfl (by kernel_rfl) rfl (y_addI rfl rfl (by omega)) <| wd_y 16 rfl (by kernel_rfl) rfl (y_move rfl) <| wd_y 17 rfl (by kernel_rfl) rfl (y_nilCheck rfl) <| wd_y 18 rfl (by kernel_rfl) rfl (y_fieldAt (off := 0) (m := 0) underlying67 rfl sz22 rfl rfl rfl) <| wd_y 19 rfl (by kernel_rfl) rfl (y_ldIn (h_s.c _) underlying22 rfl rfl rfl) <| wd_y 20 rfl (by kernel_rfl) rfl (y_indexIn (q := 0) (rdR 0 (r := ⟨45, 2, (some ⟨g_1, 0, none⟩), 1, 1, [.int .i64 t1, .int .i64 t2], false⟩) rfl) underlying45 sz3 rfl rfl (Nat.le_of_ble_eq_true rfl) (by decide) (by decide) rfl) <| wd_y 21 rfl (by kernel_rfl) rfl (y_ldIn (rdR 0 (r := ⟨45, 2, (some ⟨g_1, 0, none⟩), 1, 1, [.int .i64 t1, .int .i64 t2], false⟩) rfl) underlying3 rfl rfl rfl) <| wd_y 22 rfl (by kernel_rfl) rfl (y_index1 underlying22 sz23 rfl rfl (h_w.c _) (by omega) (by omega)) ?_
 obtain ⟨A_3, c_4, hv_5, hr_6, hb_7, mhr_6⟩ := s_w.at (i := t1) (by omega) (by omega)
 refine wd_y 23 rfl (by kernel_rfl) rfl (y_ld underlying23 rfl rfl rfl (h_w.c _) hv_5) <| wd_y 24 rfl (by kernel_rfl) rfl (y_len underlying23 rfl) <| wd_y 25 rfl (by kernel_rfl) rfl (y_rem rfl rfl (by omega) (by omega)) <| wd_y 26 rfl (by kernel_rfl) rfl (y_addI rfl rfl (by omega)) <| wd_y 27 rfl (by kernel_rfl) rfl (y_index1 underlying24 sz3 rfl rfl (h_r.c _) (by omega) (by omega)) <| wd_y 28 rfl (by kernel_rfl) rfl (y_ldI underlying3 rfl rfl (h_r.c _) (by omega) (by omega)) <| wd_y 29 rfl (by kernel_rfl) rfl (y_assign rfl) <| wd_nil (by kernel_rfl) <| w_retR (R1 := []) (fun _ h => h.sel [] (by decide) rfl) ?_
 refine ⟨_, rfl, ?_⟩
 rfl

set_option maxRecDepth 100000 in
theorem own_ct {w : World} {g_s : Nat} {A_w A_t A_b A_r : Option Addr} {n_t c_w c_t c_b c_r : Nat} {vals_w : List Value} {ws : List (List Int)} {bs rs : List Int} {t1 t2 : Int} (h_s : Rd w (some ⟨g_s, 0, none⟩) 1 1 4 [.slice A_w ws.length c_w, .slice A_t n_t c_t, .slice A_b bs.length c_b, .slice A_r rs.length c_r]) (h_w : Rd w A_w ws.length c_w 1 vals_w) (s_w : SlW .u8 w vals_w ws) (h_b : Rd w A_b bs.length c_b 1 (ints .i64 bs)) (h_r : Rd w A_r rs.length c_r 1 (ints .i64 rs)) (ha_t : 0 ≤ t1 ∧ t1 < ws.length ∧ t1 < bs.length) (hb_t : 0 ≤ t2 ∧ t2 ≤ 1000000) (hc_t : 0 < (rdl ws t1).length) (hd_t : 0 ≤ rd bs t1 ∧ rd bs t1 + (rdl ws t1).length ≤ rs.length) :
  Ct Tryz.prog 59 #[.pointer (some ⟨g_s, 0, none⟩), .agg #[.int .i64 t1, .int .i64 t2]] w.heap.size w [] (fun v R' => v = .int .i64 (ahd ws bs rs (t1, t2) 0)) := by
 refine fn1 Tryz.func59 rfl rfl rfl ?_
 have m_r := h_r.max
 have m_b := h_b.max
 have m_w := h_w.max
 refine wq <| wr_a rfl (a_box (sz := 2) rfl rfl) ?_
 rintro _ _ ⟨g_1, rfl, rfl⟩
 refine wr_rows (R1 := [⟨45, 2, (some ⟨g_1, 0, none⟩), 1, 1, [.int .i64 t1, .int .i64 t2], false⟩]) rfl <| wg rfl rfl <| wr_nil <| wq <| wm rfl rfl <| wr_y rfl (y_ldInA (vs := [.int .i64 t1, .int .i64 t2]) (rdR 0 (r := ⟨45, 2, (some ⟨g_1, 0, none⟩), 1, 1, [.int .i64 t1, .int .i64 t2], false⟩) rfl) underlying45 rfl sz45 rfl rfl (Nat.le_of_ble_eq_true rfl) rfl) <| wr_a rfl (a_callF en60 rfl (Ct.quiet (fun w hw => ahead_ct ((h_s.c _) w hw) ((h_w.c _) w hw) (s_w.c hw) ((h_b.c _) w hw) ((h_r.c _) w hw) (by first | assumption | omega | decide) (by first | assumption | omega | decide) (by first | assumption | omega | decide) (by first | assumption | omega | decide) (by first | assumption | omega | decide)))) ?_
 rintro _ _ ⟨rfl, rfl⟩
 refine wg rfl rfl <| wr_nil <| w_retR (R1 := []) (fun _ h => h.sel [] (by decide) rfl) ?_
 refine ⟨_, rfl, ?_⟩
 rfl

set_option maxRecDepth 100000 in
theorem turnCmp_ct {w : World} {t1 t2 : Int} {u1 u2 : Int} {g_s : Nat} {A_w A_t A_b A_r : Option Addr} {n_t c_w c_t c_b c_r : Nat} {vals_w : List Value} {ws : List (List Int)} {bs rs : List Int} {g_p : Nat} {g_h : Nat} {h : Int} (h_s : Rd w (some ⟨g_s, 0, none⟩) 1 1 4 [.slice A_w ws.length c_w, .slice A_t n_t c_t, .slice A_b bs.length c_b, .slice A_r rs.length c_r]) (h_w : Rd w A_w ws.length c_w 1 vals_w) (s_w : SlW .u8 w vals_w ws) (h_b : Rd w A_b bs.length c_b 1 (ints .i64 bs)) (h_r : Rd w A_r rs.length c_r 1 (ints .i64 rs)) (h_p : Rd w (some ⟨g_p, 0, none⟩) 1 1 1 [.pointer (some ⟨g_s, 0, none⟩)]) (h_h : Rd w (some ⟨g_h, 0, none⟩) 1 1 1 [.int .i64 h]) (ha_t : 0 ≤ t1 ∧ t1 < ws.length ∧ t1 < bs.length) (hb_t : 0 ≤ t2 ∧ t2 ≤ 1000000) (hc_t : 0 < (rdl ws t1).length) (hd_t : 0 ≤ rd bs t1 ∧ rd bs t1 + (rdl ws t1).length ≤ rs.length) (ha_u : 0 ≤ u1 ∧ u1 < ws.length ∧ u1 < bs.length) (hb_u : 0 ≤ u2 ∧ u2 ≤ 1000000) (hc_u : 0 < (rdl ws u1).length) (hd_u : 0 ≤ rd bs u1 ∧ rd bs u1 + (rdl ws u1).length ≤ rs.length) (hh : 0 ≤ h ∧ h ≤ 1000000) :
  Ct Tryz.prog 56 #[.agg #[.int .i64 t1, .int .i64 t2], .agg #[.int .i64 u1, .int .i64 u2], .pointer (some ⟨g_p, 0, none⟩), .pointer (some ⟨g_h, 0, none⟩)] w.heap.size w [] (fun v R' => v = .int .i64 (tcmp ws bs rs h (t1, t2) (u1, u2))) := by
 refine fn1 Tryz.func56 rfl rfl rfl ?_
 have m_r := h_r.max
 have m_b := h_b.max
 have m_w := h_w.max
 refine wq <| wr_a rfl (a_box (sz := 2) rfl rfl) ?_
 rintro _ _ ⟨g_1, rfl, rfl⟩
 refine wr_rows (R1 := [⟨45, 2, (some ⟨g_1, 0, none⟩), 1, 1, [.int .i64 t1, .int .i64 t2], false⟩]) rfl <| wr_a rfl (a_box (sz := 2) rfl rfl) ?_
 rintro _ _ ⟨g_3, rfl, rfl⟩
 refine wr_rows (R1 := [⟨45, 2, (some ⟨g_3, 0, none⟩), 1, 1, [.int .i64 u1, .int .i64 u2], false⟩, ⟨45, 2, (some ⟨g_1, 0, none⟩), 1, 1, [.int .i64 t1, .int .i64 t2], false⟩]) rfl <| wg rfl rfl <| wr_nil <| w_seq <| w_regd mixed <| wd_y 0 rfl (by kernel_rfl) rfl (y_ldIn (h_p.c _) underlying65 rfl rfl rfl) <| wd_y 1 rfl (by kernel_rfl) rfl (y_ldInA (vs := [.int .i64 t1, .int .i64 t2]) (rdR 1 (r := ⟨45, 2, (some ⟨g_1, 0, none⟩), 1, 1, [.int .i64 t1, .int .i64 t2], false⟩) rfl) underlying45 rfl sz45 rfl rfl (Nat.le_of_ble_eq_true rfl) rfl) <| wd_y 3 rfl (by kernel_rfl) rfl (y_ldIn (h_p.c _) underlying65 rfl rfl rfl) <| wd_y 4 rfl (by kernel_rfl) rfl (y_ldInA (vs := [.int .i64 u1, .int .i64 u2]) (rdR 0 (r := ⟨45, 2, (some ⟨g_3, 0, none⟩), 1, 1, [.int .i64 u1, .int .i64 u2], false⟩) rfl) underlying45 rfl sz45 rfl rfl (Nat.le_of_ble_eq_true rfl) rfl) <| wd_y 7 rfl (by kernel_rfl) rfl (y_ldIn (h_p.c _) underlying65 rfl rfl rfl) <| wd_y 8 rfl (by kernel_rfl) rfl (y_ldInA (vs := [.int .i64 t1, .int .i64 t2]) (rdR 1 (r := ⟨45, 2, (some ⟨g_1, 0, none⟩), 1, 1, [.int .i64 t1, .int .i64 t2], false⟩) rfl) underlying45 rfl sz45 rfl rfl (Nat.le_of_ble_eq_true rfl) rfl) <| wd_y 9 rfl (by kernel_rfl) rfl (y_ldIn (h_h.c _) underlying3 rfl rfl rfl) <| wd_y 11 rfl (by kernel_rfl) rfl (y_ldIn (h_p.c _) underlying65 rfl rfl rfl) <| wd_y 12 rfl (by kernel_rfl) rfl (y_ldInA (vs := [.int .i64 u1, .int .i64 u2]) (rdR 0 (r := ⟨45, 2, (some ⟨g_3, 0, none⟩), 1, 1, [.int .i64 u1, .int .i64 u2], false⟩) rfl) underlying45 rfl sz45 rfl rfl (Nat.le_of_ble_eq_true rfl) rfl) <| wd_y 13 rfl (by kernel_rfl) rfl (y_ldIn (h_h.c _) underlying3 rfl rfl rfl) ?_
 refine wd_y 16 rfl (by kernel_rfl) rfl (y_indexIn (q := 0) (rdR 1 (r := ⟨45, 2, (some ⟨g_1, 0, none⟩), 1, 1, [.int .i64 t1, .int .i64 t2], false⟩) rfl) underlying45 sz3 rfl rfl (Nat.le_of_ble_eq_true rfl) (by decide) (by decide) rfl) <| wd_y 17 rfl (by kernel_rfl) rfl (y_ldIn (rdR 1 (r := ⟨45, 2, (some ⟨g_1, 0, none⟩), 1, 1, [.int .i64 t1, .int .i64 t2], false⟩) rfl) underlying3 rfl rfl rfl) <| wd_y 18 rfl (by kernel_rfl) rfl (y_indexIn (q := 0) (rdR 0 (r := ⟨45, 2, (some ⟨g_3, 0, none⟩), 1, 1, [.int .i64 u1, .int .i64 u2], false⟩) rfl) underlying45 sz3 rfl rfl (Nat.le_of_ble_eq_true rfl) (by decide) (by decide) rfl) <| wd_y 19 rfl (by kernel_rfl) rfl (y_ldIn (rdR 0 (r := ⟨45, 2, (some ⟨g_3, 0, none⟩), 1, 1, [.int .i64 u1, .int .i64 u2], false⟩) rfl) underlying3 rfl rfl rfl) <| wd_y 21 rfl (by kernel_rfl) rfl (y_indexIn (q := 1) (rdR 1 (r := ⟨45, 2, (some ⟨g_1, 0, none⟩), 1, 1, [.int .i64 t1, .int .i64 t2], false⟩) rfl) underlying45 sz3 rfl rfl (Nat.le_of_ble_eq_true rfl) (by decide) (by decide) rfl) <| wd_y 22 rfl (by kernel_rfl) rfl (y_ldIn (rdR 1 (r := ⟨45, 2, (some ⟨g_1, 0, none⟩), 1, 1, [.int .i64 t1, .int .i64 t2], false⟩) rfl) underlying3 rfl rfl rfl) <| wd_y 23 rfl (by kernel_rfl) rfl (y_indexIn (q := 1) (rdR 0 (r := ⟨45, 2, (some ⟨g_3, 0, none⟩), 1, 1, [.int .i64 u1, .int .i64 u2], false⟩) rfl) underlying45 sz3 rfl rfl (Nat.le_of_ble_eq_true rfl) (by decide) (by decide) rfl) <| wd_y 24 rfl (by kernel_rfl) rfl (y_ldIn (rdR 0 (r := ⟨45, 2, (some ⟨g_3, 0, none⟩), 1, 1, [.int .i64 u1, .int .i64 u2], false⟩) rfl) underlying3 rfl rfl rfl) <| wd_a 2 rfl (by kernel_rfl) rfl (a_callF en59 rfl (Ct.quiet (fun w hw => own_ct ((h_s.c _) w hw) ((h_w.c _) w hw) (s_w.c hw) ((h_b.c _) w hw) ((h_r.c _) w hw) (by first | assumption | omega | decide) (by first | assumption | omega | decide) (by first | assumption | omega | decide) (by first | assumption | omega | decide)))) ?_
 rintro _ _ ⟨rfl, rfl⟩
 refine ⟨.inr fun _ h => h, ?_⟩
 refine wd_a 5 rfl (by kernel_rfl) rfl (a_callF en59 rfl (Ct.quiet (fun w hw => own_ct ((h_s.c _) w hw) ((h_w.c _) w hw) (s_w.c hw) ((h_b.c _) w hw) ((h_r.c _) w hw) (by first | assumption | omega | decide) (by first | assumption | omega | decide) (by first | assumption | omega | decide) (by first | assumption | omega | decide)))) ?_
 rintro _ _ ⟨rfl, rfl⟩
 refine ⟨.inr fun _ h => h, ?_⟩
 refine wd_a 6 rfl (by kernel_rfl) rfl (a_callF en58 rfl (Ct.quiet (fun w hw => compareI_ct))) ?_
 rintro _ _ ⟨rfl, rfl⟩
 refine ⟨.inr fun _ h => h, ?_⟩
 refine wd_a 10 rfl (by kernel_rfl) rfl (a_callF en60 rfl (Ct.quiet (fun w hw => ahead_ct ((h_s.c _) w hw) ((h_w.c _) w hw) (s_w.c hw) ((h_b.c _) w hw) ((h_r.c _) w hw) (by first | assumption | omega | decide) (by first | assumption | omega | decide) (by first | assumption | omega | decide) (by first | assumption | omega | decide) (by first | assumption | omega | decide)))) ?_
 rintro _ _ ⟨rfl, rfl⟩
 refine ⟨.inr fun _ h => h, ?_⟩
 refine wd_a 14 rfl (by kernel_rfl) rfl (a_callF en60 rfl (Ct.quiet (fun w hw => ahead_ct ((h_s.c _) w hw) ((h_w.c _) w hw) (s_w.c hw) ((h_b.c _) w hw) ((h_r.c _) w hw) (by first | assumption | omega | decide) (by first | assumption | omega | decide) (by first | assumption | omega | decide) (by first | assumption | omega | decide) (by first | assumption | omega | decide)))) ?_
 rintro _ _ ⟨rfl, rfl⟩
 refine ⟨.inr fun _ h => h, ?_⟩
 refine wd_a 15 rfl (by kernel_rfl) rfl (a_callF en58 rfl (Ct.quiet (fun w hw => compareI_ct))) ?_
 rintro _ _ ⟨rfl, rfl⟩
 refine ⟨.inr fun _ h => h, ?_⟩
 refine wd_a 20 rfl (by kernel_rfl) rfl (a_callF en58 rfl (Ct.quiet (fun w hw => compareI_ct))) ?_
 rintro _ _ ⟨rfl, rfl⟩
 refine ⟨.inr fun _ h => h, ?_⟩
 refine wd_a 25 rfl (by kernel_rfl) rfl (a_callF en58 rfl (Ct.quiet (fun w hw => compareI_ct))) ?_
 rintro _ _ ⟨rfl, rfl⟩
 refine ⟨.inr fun _ h => h, ?_⟩
 refine wd_a 26 rfl (by kernel_rfl) rfl (a_litI .i64 [cmpI (ahd ws bs rs (t1, t2) 0) (ahd ws bs rs (u1, u2) 0), cmpI (ahd ws bs rs (t1, t2) h) (ahd ws bs rs (u1, u2) h), cmpI t1 u1, cmpI t2 u2] underlying24 zs3 rfl rfl rfl) ?_
 rintro _ _ ⟨g_6, rfl, rfl⟩
 refine ⟨.inr fun _ h => h.right (R' := [_]), ?_⟩
 refine wd_a 27 rfl (by kernel_rfl) rfl (a_callF en57 rfl (Ct.quiet (fun w hw => orI_ct ((rdr 0 rfl) w hw)))) ?_
 rintro _ _ ⟨rfl, rfl⟩
 refine ⟨.inr fun _ h => h, ?_⟩
 refine wd_y 28 rfl (by kernel_rfl) rfl (y_assign rfl) <| wd_nil (by kernel_rfl) <| w_retR (R1 := []) (fun _ h => h.sel [] (by decide) rfl) ?_
 refine ⟨_, rfl, ?_⟩
 rfl

theorem sortsTurns (cb : Array Value) : SortsK2 Tryz.prog 55 56 cb := fun α _ enc hk h1 cf hO blk off cap d w hcmp hH hblk hsz =>
 Tryz.slices_SortFunc 2 (fun w => by kernel_rfl) (fun w => by kernel_rfl) enc hk h1 cf hO 56 cb blk off cap d w en56 hcmp hH hblk hsz
set_option maxRecDepth 100000 in
theorem doubles_ct {B : Nat} {w0 : World} {R : List Row} {g_s : Nat} {A_w A_t A_b A_r A_o : Option Addr} {n_t n_o n_b n_r c_w c_t c_b c_r c_o : Nat} {vals_w : List Value} {ws : List (List Int)} {bs rs : List Int} {ts : List (Int × Int)} {h : Int} (hno : n_o = ts.length) (hnb : n_b = bs.length) (hnr : n_r = rs.length) (hrw : RdC B w0 R A_w ws.length c_w 1 vals_w) (hsw : ∀ w, Hp B w0 w R → SlW .u8 w vals_w ws) (hv : ∀ t ∈ ts, TOk ws bs rs.length t) (hinj : ∀ t ∈ ts, ∀ u ∈ ts, posT bs t = posT bs u → t = u) (hnd : ts.Nodup) (hne : ts ≠ []) (hN : rs.length ≤ 1000000 ∧ ts.length ≤ 1000000) (hh : 0 ≤ h ∧ h ≤ 1000000) :
  Ct Tryz.prog 35 #[.pointer (some ⟨g_s, 0, none⟩), .slice A_o n_o c_o, .int .i64 h] B w0 (⟨67, 4, (some ⟨g_s, 0, none⟩), 1, 1, [.slice A_w ws.length c_w, .slice A_t n_t c_t, .slice A_b n_b c_b, .slice A_r n_r c_r], false⟩ :: ⟨45, 2, A_o, n_o, c_o, prs ts, false⟩ :: ⟨3, 1, A_b, n_b, c_b, ints .i64 bs, false⟩ :: ⟨3, 1, A_r, n_r, c_r, ints .i64 rs, false⟩ :: R) (fun v R' => ∃ (l1 : List (Int × Int)) (rk : List Int) (A' : Option Addr) (c' : Nat), v = .int .i64 (clsF ws bs rs h l1 (l1.length - 1)) ∧ l1.Perm ts ∧ l1.Pairwise (fun x y => ¬ tcmp ws bs rs h y x < 0) ∧ rk.length = rs.length ∧ (∀ j : Nat, j < l1.length → rd rk (posT bs (rdp l1 j)) = clsF ws bs rs h l1 j) ∧ R' = ⟨67, 4, (some ⟨g_s, 0, none⟩), 1, 1, [.slice A_w ws.length c_w, .slice A_t n_t c_t, .slice A_b n_b c_b, .slice A' n_r c'], false⟩ :: ⟨45, 2, A_o, n_o, c_o, prs l1, false⟩ :: ⟨3, 1, A_b, n_b, c_b, ints .i64 bs, false⟩ :: ⟨3, 1, A', n_r, c', ints .i64 rk, false⟩ :: R) := by
 subst hno; subst hnb; subst hnr
 refine fn1 Tryz.func35 rfl rfl rfl ?_
 have hinj1 : ∀ t ∈ ts, 0 ≤ posT bs t := fun t ht => by have := hv t ht; unfold TOk at this; unfold posT; omega
 refine wq <| wr_a rfl (a_box (sz := 1) rfl rfl) ?_
 rintro _ _ ⟨g_1, rfl, rfl⟩
 refine wr_rows (R1 := (⟨65, 1, (some ⟨g_1, 0, none⟩), 1, 1, [.pointer (some ⟨g_s, 0, none⟩)], false⟩ :: ⟨67, 4, (some ⟨g_s, 0, none⟩), 1, 1, [.slice A_w ws.length c_w, .slice A_t n_t c_t, .slice A_b bs.length c_b, .slice A_r rs.length c_r], false⟩ :: ⟨45, 2, A_o, ts.length, c_o, prs ts, false⟩ :: ⟨3, 1, A_b, bs.length, c_b, ints .i64 bs, false⟩ :: ⟨3, 1, A_r, rs.length, c_r, ints .i64 rs, false⟩ :: R)) rfl <| wr_a rfl (a_box (sz := 1) rfl rfl) ?_
 rintro _ _ ⟨g_3, rfl, rfl⟩
 refine wr_rows (R1 := (⟨3, 1, (some ⟨g_3, 0, none⟩), 1, 1, [.int .i64 h], false⟩ :: ⟨65, 1, (some ⟨g_1, 0, none⟩), 1, 1, [.pointer (some ⟨g_s, 0, none⟩)], false⟩ :: ⟨67, 4, (some ⟨g_s, 0, none⟩), 1, 1, [.slice A_w ws.length c_w, .slice A_t n_t c_t, .slice A_b bs.length c_b, .slice A_r rs.length c_r], false⟩ :: ⟨45, 2, A_o, ts.length, c_o, prs ts, false⟩ :: ⟨3, 1, A_b, bs.length, c_b, ints .i64 bs, false⟩ :: ⟨3, 1, A_r, rs.length, c_r, ints .i64 rs, false⟩ :: R)) rfl <| wg rfl rfl <| wr_nil <| wq <| wm rfl rfl <| wr_y rfl (y_makeFunc rfl rfl) <| wr_a rfl (a_callF en55 rfl (sort_pairs (sortsTurns _) 3 rfl hne (by omega) (tcmp ws bs rs h) (tcmp_swo ws bs rs h) (fun W hW x hx y hy => turnCmp_ct ((rdR 2 (r := ⟨67, 4, (some ⟨g_s, 0, none⟩), 1, 1, [.slice A_w ws.length c_w, .slice A_t n_t c_t, .slice A_b bs.length c_b, .slice A_r rs.length c_r], false⟩) rfl) W hW) ((RdC.right hrw [_, _, _, _, _]) W hW) (hsw W (Hp.right (R' := [_, _, _, _, _]) hW)) ((rdR 3 (r := ⟨3, 1, A_b, bs.length, c_b, ints .i64 bs, false⟩) rfl) W hW) ((rdR 4 (r := ⟨3, 1, A_r, rs.length, c_r, ints .i64 rs, false⟩) rfl) W hW) ((rdR 1 (r := ⟨65, 1, (some ⟨g_1, 0, none⟩), 1, 1, [.pointer (some ⟨g_s, 0, none⟩)], false⟩) rfl) W hW) ((rdR 0 (r := ⟨3, 1, (some ⟨g_3, 0, none⟩), 1, 1, [.int .i64 h], false⟩) rfl) W hW) (hv x hx).1 (by have := (hv x hx).2.1; omega) (hv x hx).2.2.1 (hv x hx).2.2.2 (hv y hy).1 (by have := (hv y hy).2.1; omega) (hv y hy).2.2.1 (hv y hy).2.2.2 hh))) ?_
 rintro _ _ ⟨rfl, l1, hp1, hs1, rfl⟩
 have hl1 := hp1.length_eq
 have hv1 : ∀ t ∈ l1, TOk ws bs rs.length t := fun t ht => hv t (hp1.mem_iff.1 ht)
 have hnd1 := hp1.nodup_iff.2 hnd
 refine wr_rows (R1 := (⟨3, 1, (some ⟨g_3, 0, none⟩), 1, 1, [.int .i64 h], false⟩ :: ⟨65, 1, (some ⟨g_1, 0, none⟩), 1, 1, [.pointer (some ⟨g_s, 0, none⟩)], false⟩ :: ⟨67, 4, (some ⟨g_s, 0, none⟩), 1, 1, [.slice A_w ws.length c_w, .slice A_t n_t c_t, .slice A_b bs.length c_b, .slice A_r rs.length c_r], false⟩ :: ⟨45, 2, A_o, ts.length, c_o, prs l1, false⟩ :: ⟨3, 1, A_b, bs.length, c_b, ints .i64 bs, false⟩ :: ⟨3, 1, A_r, rs.length, c_r, ints .i64 rs, false⟩ :: R)) rfl <| wr_nil <| wq <| wr_y rfl (y_ldIn (rdR 1 (r := ⟨65, 1, (some ⟨g_1, 0, none⟩), 1, 1, [.pointer (some ⟨g_s, 0, none⟩)], false⟩) rfl) underlying65 rfl rfl rfl) <| wr_y rfl (y_nilCheck rfl) <| wr_y rfl (y_fieldAt (off := 3) (m := 3) underlying67 rfl sz24 rfl rfl rfl) <| wr_y rfl (y_ldIn (rdR 2 (r := ⟨67, 4, (some ⟨g_s, 0, none⟩), 1, 1, [.slice A_w ws.length c_w, .slice A_t n_t c_t, .slice A_b bs.length c_b, .slice A_r rs.length c_r], false⟩) rfl) underlying24 rfl rfl rfl) <| wr_y rfl (y_len underlying24 rfl) <| wr_a rfl (a_makeN underlying24 zb3 rfl rfl (by omega) (by omega) (by omega)) ?_
 rintro _ _ ⟨g_5, rfl, rfl⟩
 refine wr_rows (R1 := (⟨3, 1, (some ⟨g_5, 0, none⟩), rs.length, rs.length, ints .i64 (List.replicate rs.length (0 : Int)), false⟩ :: ⟨3, 1, (some ⟨g_3, 0, none⟩), 1, 1, [.int .i64 h], false⟩ :: ⟨65, 1, (some ⟨g_1, 0, none⟩), 1, 1, [.pointer (some ⟨g_s, 0, none⟩)], false⟩ :: ⟨67, 4, (some ⟨g_s, 0, none⟩), 1, 1, [.slice A_w ws.length c_w, .slice A_t n_t c_t, .slice A_b bs.length c_b, .slice A_r rs.length c_r], false⟩ :: ⟨45, 2, A_o, ts.length, c_o, prs l1, false⟩ :: ⟨3, 1, A_b, bs.length, c_b, ints .i64 bs, false⟩ :: ⟨3, 1, A_r, rs.length, c_r, ints .i64 rs, false⟩ :: R)) rfl <| wr_as (v := .slice (some ⟨g_5, 0, none⟩) rs.length rs.length) rfl <| wg rfl rfl <| wr_nil <| wq <| wg rfl rfl <| wr_nil <| w_seq <| wq <| wm rfl rfl <| wr_y rfl (y_len underlying43 rfl) <| wm rfl rfl <| wr_nil ?_
 refine w_block ?_
 refine w_loop3 (fun (i : Int) (n : Int) (rk : List Int) => [(1, .slice A_o ts.length c_o), (3, .pointer (some ⟨g_1, 0, none⟩)), (5, .pointer (some ⟨g_3, 0, none⟩)), (7, .slice (some ⟨g_5, 0, none⟩) rs.length rs.length), (8, .int .i64 n), (21, .slice A_o ts.length c_o), (22, .int .i64 ((ts.length : Nat) : Int)), (23, .int .i64 i)]) (fun (i : Int) (n : Int) (rk : List Int) => (⟨3, 1, (some ⟨g_5, 0, none⟩), rs.length, rs.length, ints .i64 rk, false⟩ :: ⟨3, 1, (some ⟨g_3, 0, none⟩), 1, 1, [.int .i64 h], false⟩ :: ⟨65, 1, (some ⟨g_1, 0, none⟩), 1, 1, [.pointer (some ⟨g_s, 0, none⟩)], false⟩ :: ⟨67, 4, (some ⟨g_s, 0, none⟩), 1, 1, [.slice A_w ws.length c_w, .slice A_t n_t c_t, .slice A_b bs.length c_b, .slice A_r rs.length c_r], false⟩ :: ⟨45, 2, A_o, ts.length, c_o, prs l1, false⟩ :: ⟨3, 1, A_b, bs.length, c_b, ints .i64 bs, false⟩ :: ⟨3, 1, A_r, rs.length, c_r, ints .i64 rs, false⟩ :: R)) (fun (i : Int) (n : Int) (rk : List Int) => (0 ≤ i) ∧ (i ≤ l1.length) ∧ (0 ≤ n ∧ n ≤ i) ∧ (n = clsF ws bs rs h l1 (i - 1).toNat) ∧ (rk.length = rs.length) ∧ (∀ j : Nat, j < i → rd rk (posT bs (rdp l1 j)) = clsF ws bs rs h l1 j)) (fun (i : Int) (n : Int) (rk : List Int) => (l1.length - i).toNat) ?_ ?_
 ·
  exact ⟨0, 0, List.replicate rs.length (0 : Int), ⟨(by omega), (by omega), (by omega), (rfl), (by rw [List.length_replicate]), (fun j hj => by omega)⟩, (sc rfl (sc rfl (sc rfl (sc rfl (sc rfl (sc rfl (sc rfl (sc rfl Sub.nil)))))))), fun _ h => h⟩
 intro i n rk ⟨hi0, hi1, hn0, hn, hkl, hrk⟩
 refine wq <| wL rfl rfl rfl <| wr_nil <| w_seq <| w_if rfl (fun hc1 => ?_) (fun hc1 => ?_)
 ·
  have hq := hv1 _ (rdp_mem hi0 (show i < l1.length by omega))
  obtain ⟨⟨q1, q2, q3⟩, ⟨q4, q5, q6⟩, q7, q8, q9⟩ := hq
  have hps : ∀ t ∈ l1, 0 ≤ posT bs t := fun t ht => hinj1 t (hp1.mem_iff.1 ht)
  have hij : ∀ t ∈ l1, ∀ u ∈ l1, posT bs t = posT bs u → t = u := fun t ht u hu => hinj t (hp1.mem_iff.1 ht) u (hp1.mem_iff.1 hu)
  refine w_skip <| w_seq <| w_block <| wq <| wm rfl rfl <| wr_y rfl (y_index underlying43 sz45 rfl rfl (rdr 4 rfl) rfl (by omega) (by omega)) <| wr_y rfl (y_ldP underlying45 rfl sz45 rfl (rdr 4 rfl) (by omega) (by omega)) <| wr_a rfl (a_alloc (sz := 2) zz45 rfl) ?_
  rintro _ _ ⟨g_7, rfl, rfl⟩
  refine wr_rows (R1 := (⟨45, 2, (some ⟨g_7, 0, none⟩), 1, 1, [.int .i64 0, .int .i64 0], false⟩ :: ⟨3, 1, (some ⟨g_5, 0, none⟩), rs.length, rs.length, ints .i64 rk, false⟩ :: ⟨3, 1, (some ⟨g_3, 0, none⟩), 1, 1, [.int .i64 h], false⟩ :: ⟨65, 1, (some ⟨g_1, 0, none⟩), 1, 1, [.pointer (some ⟨g_s, 0, none⟩)], false⟩ :: ⟨67, 4, (some ⟨g_s, 0, none⟩), 1, 1, [.slice A_w ws.length c_w, .slice A_t n_t c_t, .slice A_b bs.length c_b, .slice A_r rs.length c_r], false⟩ :: ⟨45, 2, A_o, ts.length, c_o, prs l1, false⟩ :: ⟨3, 1, A_b, bs.length, c_b, ints .i64 bs, false⟩ :: ⟨3, 1, A_r, rs.length, c_r, ints .i64 rs, false⟩ :: R)) rfl <| wg rfl rfl <| wr_n (a_storeAll (vs := [.int .i64 ((rdp l1 i).1), .int .i64 ((rdp l1 i).2)]) 0 rfl sz45 rfl rfl rfl (by intro v hv; simp at hv; rcases hv with rfl | rfl <;> rfl) rfl) ?_
  rintro _ _ rfl
  refine wr_rows (R1 := (⟨45, 2, (some ⟨g_7, 0, none⟩), 1, 1, [.int .i64 ((rdp l1 i).1), .int .i64 ((rdp l1 i).2)], false⟩ :: ⟨3, 1, (some ⟨g_5, 0, none⟩), rs.length, rs.length, ints .i64 rk, false⟩ :: ⟨3, 1, (some ⟨g_3, 0, none⟩), 1, 1, [.int .i64 h], false⟩ :: ⟨65, 1, (some ⟨g_1, 0, none⟩), 1, 1, [.pointer (some ⟨g_s, 0, none⟩)], false⟩ :: ⟨67, 4, (some ⟨g_s, 0, none⟩), 1, 1, [.slice A_w ws.length c_w, .slice A_t n_t c_t, .slice A_b bs.length c_b, .slice A_r rs.length c_r], false⟩ :: ⟨45, 2, A_o, ts.length, c_o, prs l1, false⟩ :: ⟨3, 1, A_b, bs.length, c_b, ints .i64 bs, false⟩ :: ⟨3, 1, A_r, rs.length, c_r, ints .i64 rs, false⟩ :: R)) rfl <| wr_nil <| w_seq <| wq <| wm rfl rfl <| wr_y rfl (y_gt rfl rfl) <| wr_nil <| w_if rfl (fun hc2 => ?_) (fun hc2 => ?_)
  ·
   have hq' := hv1 _ (rdp_mem (show 0 ≤ i - 1 by omega) (show i - 1 < l1.length by omega))
   obtain ⟨⟨p1, p2, p3⟩, ⟨p4, p5, p6⟩, p7, p8, p9⟩ := hq'
   refine wq <| wm rfl rfl <| wm rfl rfl <| wS rfl rfl rfl (by omega) <| wr_y rfl (y_index underlying43 sz45 rfl rfl (rdr 5 rfl) rfl (by omega) (by omega)) <| wr_y rfl (y_ldP underlying45 rfl sz45 rfl (rdr 5 rfl) (by omega) (by omega)) <| wr_a rfl (a_alloc (sz := 2) zz45 rfl) ?_
   rintro _ _ ⟨g_9, rfl, rfl⟩
   refine wr_rows (R1 := (⟨45, 2, (some ⟨g_9, 0, none⟩), 1, 1, [.int .i64 0, .int .i64 0], false⟩ :: ⟨45, 2, (some ⟨g_7, 0, none⟩), 1, 1, [.int .i64 ((rdp l1 i).1), .int .i64 ((rdp l1 i).2)], false⟩ :: ⟨3, 1, (some ⟨g_5, 0, none⟩), rs.length, rs.length, ints .i64 rk, false⟩ :: ⟨3, 1, (some ⟨g_3, 0, none⟩), 1, 1, [.int .i64 h], false⟩ :: ⟨65, 1, (some ⟨g_1, 0, none⟩), 1, 1, [.pointer (some ⟨g_s, 0, none⟩)], false⟩ :: ⟨67, 4, (some ⟨g_s, 0, none⟩), 1, 1, [.slice A_w ws.length c_w, .slice A_t n_t c_t, .slice A_b bs.length c_b, .slice A_r rs.length c_r], false⟩ :: ⟨45, 2, A_o, ts.length, c_o, prs l1, false⟩ :: ⟨3, 1, A_b, bs.length, c_b, ints .i64 bs, false⟩ :: ⟨3, 1, A_r, rs.length, c_r, ints .i64 rs, false⟩ :: R)) rfl <| wr_n (a_storeAll (vs := [.int .i64 ((rdp l1 (i - 1)).1), .int .i64 ((rdp l1 (i - 1)).2)]) 0 rfl sz45 rfl rfl rfl (by intro v hv; simp at hv; rcases hv with rfl | rfl <;> rfl) rfl) ?_
   rintro _ _ rfl
   refine wr_rows (R1 := (⟨45, 2, (some ⟨g_9, 0, none⟩), 1, 1, [.int .i64 ((rdp l1 (i - 1)).1), .int .i64 ((rdp l1 (i - 1)).2)], false⟩ :: ⟨45, 2, (some ⟨g_7, 0, none⟩), 1, 1, [.int .i64 ((rdp l1 i).1), .int .i64 ((rdp l1 i).2)], false⟩ :: ⟨3, 1, (some ⟨g_5, 0, none⟩), rs.length, rs.length, ints .i64 rk, false⟩ :: ⟨3, 1, (some ⟨g_3, 0, none⟩), 1, 1, [.int .i64 h], false⟩ :: ⟨65, 1, (some ⟨g_1, 0, none⟩), 1, 1, [.pointer (some ⟨g_s, 0, none⟩)], false⟩ :: ⟨67, 4, (some ⟨g_s, 0, none⟩), 1, 1, [.slice A_w ws.length c_w, .slice A_t n_t c_t, .slice A_b bs.length c_b, .slice A_r rs.length c_r], false⟩ :: ⟨45, 2, A_o, ts.length, c_o, prs l1, false⟩ :: ⟨3, 1, A_b, bs.length, c_b, ints .i64 bs, false⟩ :: ⟨3, 1, A_r, rs.length, c_r, ints .i64 rs, false⟩ :: R)) rfl <| wr_nil ?_
   refine w_join0 [(1, .slice A_o ts.length c_o), (3, .pointer (some ⟨g_1, 0, none⟩)), (5, .pointer (some ⟨g_3, 0, none⟩)), (7, .slice (some ⟨g_5, 0, none⟩) rs.length rs.length), (8, .int .i64 n), (10, .pointer (some ⟨g_7, 0, none⟩)), (21, .slice A_o ts.length c_o), (22, .int .i64 ((ts.length : Nat) : Int)), (23, .int .i64 i), (52, .bool (decide (((ahd ws bs rs (((rdp l1 (i - 1)).1), ((rdp l1 (i - 1)).2)) 0) ≠ (ahd ws bs rs (((rdp l1 i).1), ((rdp l1 i).2)) 0)) ∨ ((ahd ws bs rs (((rdp l1 (i - 1)).1), ((rdp l1 (i - 1)).2)) h) ≠ (ahd ws bs rs (((rdp l1 i).1), ((rdp l1 i).2)) h)))))] (⟨45, 2, (some ⟨g_9, 0, none⟩), 1, 1, [.int .i64 ((rdp l1 (i - 1)).1), .int .i64 ((rdp l1 (i - 1)).2)], false⟩ :: ⟨45, 2, (some ⟨g_7, 0, none⟩), 1, 1, [.int .i64 ((rdp l1 i).1), .int .i64 ((rdp l1 i).2)], false⟩ :: ⟨3, 1, (some ⟨g_5, 0, none⟩), rs.length, rs.length, ints .i64 rk, false⟩ :: ⟨3, 1, (some ⟨g_3, 0, none⟩), 1, 1, [.int .i64 h], false⟩ :: ⟨65, 1, (some ⟨g_1, 0, none⟩), 1, 1, [.pointer (some ⟨g_s, 0, none⟩)], false⟩ :: ⟨67, 4, (some ⟨g_s, 0, none⟩), 1, 1, [.slice A_w ws.length c_w, .slice A_t n_t c_t, .slice A_b bs.length c_b, .slice A_r rs.length c_r], false⟩ :: ⟨45, 2, A_o, ts.length, c_o, prs l1, false⟩ :: ⟨3, 1, A_b, bs.length, c_b, ints .i64 bs, false⟩ :: ⟨3, 1, A_r, rs.length, c_r, ints .i64 rs, false⟩ :: R) ?_ ?_
   ·
    refine w_regd mixed <| wd_y 0 rfl (by kernel_rfl) rfl (y_ldIn (rdR 4 (r := ⟨65, 1, (some ⟨g_1, 0, none⟩), 1, 1, [.pointer (some ⟨g_s, 0, none⟩)], false⟩) rfl) underlying65 rfl rfl rfl) <| wd_y 1 rfl (by kernel_rfl) rfl (y_ldInA (vs := [.int .i64 ((rdp l1 (i - 1)).1), .int .i64 ((rdp l1 (i - 1)).2)]) (rdR 0 (r := ⟨45, 2, (some ⟨g_9, 0, none⟩), 1, 1, [.int .i64 ((rdp l1 (i - 1)).1), .int .i64 ((rdp l1 (i - 1)).2)], false⟩) rfl) underlying45 rfl sz45 rfl rfl (Nat.le_of_ble_eq_true rfl) rfl) <| wd_y 3 rfl (by kernel_rfl) rfl (y_ldIn (rdR 4 (r := ⟨65, 1, (some ⟨g_1, 0, none⟩), 1, 1, [.pointer (some ⟨g_s, 0, none⟩)], false⟩) rfl) underlying65 rfl rfl rfl) <| wd_y 4 rfl (by kernel_rfl) rfl (y_ldInA (vs := [.int .i64 ((rdp l1 i).1), .int .i64 ((rdp l1 i).2)]) (rdR 1 (r := ⟨45, 2, (some ⟨g_7, 0, none⟩), 1, 1, [.int .i64 ((rdp l1 i).1), .int .i64 ((rdp l1 i).2)], false⟩) rfl) underlying45 rfl sz45 rfl rfl (Nat.le_of_ble_eq_true rfl) rfl) <| wd_a 2 rfl (by kernel_rfl) rfl (a_callF en59 rfl (Ct.quiet (fun w hw => own_ct ((rdR 5 (r := ⟨67, 4, (some ⟨g_s, 0, none⟩), 1, 1, [.slice A_w ws.length c_w, .slice A_t n_t c_t, .slice A_b bs.length c_b, .slice A_r rs.length c_r], false⟩) rfl) w hw) ((RdC.right hrw [_, _, _, _, _, _, _, _, _]) w hw) (hsw w (Hp.right (R' := [_, _, _, _, _, _, _, _, _]) hw)) ((rdr 7 rfl) w hw) ((rdr 8 rfl) w hw) (by first | assumption | omega | decide) (by first | assumption | omega | decide) (by first | assumption | omega | decide) (by first | assumption | omega | decide)))) ?_
    rintro _ _ ⟨rfl, rfl⟩
    refine ⟨.inr fun _ h => h, ?_⟩
    refine wd_a 5 rfl (by kernel_rfl) rfl (a_callF en59 rfl (Ct.quiet (fun w hw => own_ct ((rdR 5 (r := ⟨67, 4, (some ⟨g_s, 0, none⟩), 1, 1, [.slice A_w ws.length c_w, .slice A_t n_t c_t, .slice A_b bs.length c_b, .slice A_r rs.length c_r], false⟩) rfl) w hw) ((RdC.right hrw [_, _, _, _, _, _, _, _, _]) w hw) (hsw w (Hp.right (R' := [_, _, _, _, _, _, _, _, _]) hw)) ((rdr 7 rfl) w hw) ((rdr 8 rfl) w hw) (by first | assumption | omega | decide) (by first | assumption | omega | decide) (by first | assumption | omega | decide) (by first | assumption | omega | decide)))) ?_
    rintro _ _ ⟨rfl, rfl⟩
    refine ⟨.inr fun _ h => h, ?_⟩
    refine wd_y 6 rfl (by kernel_rfl) rfl (y_ne rfl rfl) <| wd_y 7 rfl (by kernel_rfl) rfl (y_move rfl) <| wd_case 42 rfl (fun hc3 => ?_) (fun hc3 => ?_)
    ·
     refine wd_no 8 rfl (by kernel_rfl) rfl rfl rfl rfl <| wd_no 9 rfl (by kernel_rfl) rfl rfl rfl rfl <| wd_no 10 rfl (by kernel_rfl) rfl rfl rfl rfl <| wd_no 11 rfl (by kernel_rfl) rfl rfl rfl rfl <| wd_no 12 rfl (by kernel_rfl) rfl rfl rfl rfl <| wd_no 13 rfl (by kernel_rfl) rfl rfl rfl rfl <| wd_no 14 rfl (by kernel_rfl) rfl rfl rfl rfl <| wd_no 15 rfl (by kernel_rfl) rfl rfl rfl rfl <| wd_no 16 rfl (by kernel_rfl) rfl rfl rfl rfl <| wd_y 17 rfl (by kernel_rfl) rfl (y_pickT rfl rfl) <| wd_nil (by kernel_rfl) ?_
     exact ⟨(sc rfl (sc rfl (sc rfl (sc rfl (sc rfl (sc rfl (sc rfl (sc rfl (sc rfl (Sub.to rfl (mb_t (by first | omega | exact ⟨fun h => ⟨(by assumption), h⟩, fun h => h.2⟩ | exact .inl (by assumption) | exact ⟨.inr, fun h => h.resolve_left (by assumption)⟩ | exact ⟨fun h => h.resolve_left (by assumption), .inr⟩ | simp [*])) Sub.nil)))))))))), fun _ h => h⟩
    ·
     refine wd_yg 8 rfl (by kernel_rfl) rfl rfl rfl (y_ldIn (rdR 4 (r := ⟨65, 1, (some ⟨g_1, 0, none⟩), 1, 1, [.pointer (some ⟨g_s, 0, none⟩)], false⟩) rfl) underlying65 rfl rfl rfl) <| wd_yg 9 rfl (by kernel_rfl) rfl rfl rfl (y_ldInA (vs := [.int .i64 ((rdp l1 (i - 1)).1), .int .i64 ((rdp l1 (i - 1)).2)]) (rdR 0 (r := ⟨45, 2, (some ⟨g_9, 0, none⟩), 1, 1, [.int .i64 ((rdp l1 (i - 1)).1), .int .i64 ((rdp l1 (i - 1)).2)], false⟩) rfl) underlying45 rfl sz45 rfl rfl (Nat.le_of_ble_eq_true rfl) rfl) <| wd_yg 10 rfl (by kernel_rfl) rfl rfl rfl (y_ldIn (rdR 3 (r := ⟨3, 1, (some ⟨g_3, 0, none⟩), 1, 1, [.int .i64 h], false⟩) rfl) underlying3 rfl rfl rfl) <| wd_yg 12 rfl (by kernel_rfl) rfl rfl rfl (y_ldIn (rdR 4 (r := ⟨65, 1, (some ⟨g_1, 0, none⟩), 1, 1, [.pointer (some ⟨g_s, 0, none⟩)], false⟩) rfl) underlying65 rfl rfl rfl) <| wd_yg 13 rfl (by kernel_rfl) rfl rfl rfl (y_ldInA (vs := [.int .i64 ((rdp l1 i).1), .int .i64 ((rdp l1 i).2)]) (rdR 1 (r := ⟨45, 2, (some ⟨g_7, 0, none⟩), 1, 1, [.int .i64 ((rdp l1 i).1), .int .i64 ((rdp l1 i).2)], false⟩) rfl) underlying45 rfl sz45 rfl rfl (Nat.le_of_ble_eq_true rfl) rfl) <| wd_yg 14 rfl (by kernel_rfl) rfl rfl rfl (y_ldIn (rdR 3 (r := ⟨3, 1, (some ⟨g_3, 0, none⟩), 1, 1, [.int .i64 h], false⟩) rfl) underlying3 rfl rfl rfl) <| wd_ag 11 rfl (by kernel_rfl) rfl rfl rfl (a_callF en60 rfl (Ct.quiet (fun w hw => ahead_ct ((rdR 5 (r := ⟨67, 4, (some ⟨g_s, 0, none⟩), 1, 1, [.slice A_w ws.length c_w, .slice A_t n_t c_t, .slice A_b bs.length c_b, .slice A_r rs.length c_r], false⟩) rfl) w hw) ((RdC.right hrw [_, _, _, _, _, _, _, _, _]) w hw) (hsw w (Hp.right (R' := [_, _, _, _, _, _, _, _, _]) hw)) ((rdr 7 rfl) w hw) ((rdr 8 rfl) w hw) (by first | assumption | omega | decide) (by first | assumption | omega | decide) (by first | assumption | omega | decide) (by first | assumption | omega | decide) (by first | assumption | omega | decide)))) ?_
     rintro _ _ ⟨rfl, rfl⟩
     refine ⟨.inr fun _ h => h, ?_⟩
     refine wd_ag 15 rfl (by kernel_rfl) rfl rfl rfl (a_callF en60 rfl (Ct.quiet (fun w hw => ahead_ct ((rdR 5 (r := ⟨67, 4, (some ⟨g_s, 0, none⟩), 1, 1, [.slice A_w ws.length c_w, .slice A_t n_t c_t, .slice A_b bs.length c_b, .slice A_r rs.length c_r], false⟩) rfl) w hw) ((RdC.right hrw [_, _, _, _, _, _, _, _, _]) w hw) (hsw w (Hp.right (R' := [_, _, _, _, _, _, _, _, _]) hw)) ((rdr 7 rfl) w hw) ((rdr 8 rfl) w hw) (by first | assumption | omega | decide) (by first | assumption | omega | decide) (by first | assumption | omega | decide) (by first | assumption | omega | decide) (by first | assumption | omega | decide)))) ?_
     rintro _ _ ⟨rfl, rfl⟩
     refine ⟨.inr fun _ h => h, ?_⟩
     refine wd_yg 16 rfl (by kernel_rfl) rfl rfl rfl (y_ne rfl rfl) <| wd_y 17 rfl (by kernel_rfl) rfl (y_pickF rfl rfl) <| wd_nil (by kernel_rfl) ?_
     exact ⟨(sc rfl (sc rfl (sc rfl (sc rfl (sc rfl (sc rfl (sc rfl (sc rfl (sc rfl (Sub.to rfl (mb (by first | omega | exact ⟨fun h => ⟨(by assumption), h⟩, fun h => h.2⟩ | exact .inl (by assumption) | exact ⟨.inr, fun h => h.resolve_left (by assumption)⟩ | exact ⟨fun h => h.resolve_left (by assumption), .inr⟩ | simp [*])) Sub.nil)))))))))), fun _ h => h⟩
   refine w_if rfl (fun hc4 => ?_) (fun hc4 => ?_)
   ·
    refine w_reg <| wm rfl rfl <| wA rfl rfl rfl (by omega) <| wg rfl rfl <| wr_nil <| w_regd mixed <| wd_y 0 rfl (by kernel_rfl) rfl (y_move rfl) <| wd_y 1 rfl (by kernel_rfl) rfl (y_ldIn (rdR 4 (r := ⟨65, 1, (some ⟨g_1, 0, none⟩), 1, 1, [.pointer (some ⟨g_s, 0, none⟩)], false⟩) rfl) underlying65 rfl rfl rfl) <| wd_y 2 rfl (by kernel_rfl) rfl (y_nilCheck rfl) <| wd_y 3 rfl (by kernel_rfl) rfl (y_fieldAt (off := 2) (m := 2) underlying67 rfl sz24 rfl rfl rfl) <| wd_y 4 rfl (by kernel_rfl) rfl (y_ldIn (rdR 5 (r := ⟨67, 4, (some ⟨g_s, 0, none⟩), 1, 1, [.slice A_w ws.length c_w, .slice A_t n_t c_t, .slice A_b bs.length c_b, .slice A_r rs.length c_r], false⟩) rfl) underlying24 rfl rfl rfl) <| wd_y 5 rfl (by kernel_rfl) rfl (y_indexIn (q := 0) (rdR 1 (r := ⟨45, 2, (some ⟨g_7, 0, none⟩), 1, 1, [.int .i64 ((rdp l1 i).1), .int .i64 ((rdp l1 i).2)], false⟩) rfl) underlying45 sz3 rfl rfl (Nat.le_of_ble_eq_true rfl) (by decide) (by decide) rfl) <| wd_y 6 rfl (by kernel_rfl) rfl (y_ldIn (rdR 1 (r := ⟨45, 2, (some ⟨g_7, 0, none⟩), 1, 1, [.int .i64 ((rdp l1 i).1), .int .i64 ((rdp l1 i).2)], false⟩) rfl) underlying3 rfl rfl rfl) <| wd_y 7 rfl (by kernel_rfl) rfl (y_index1 underlying24 sz3 rfl rfl (rdr 7 rfl) (by omega) (by omega)) <| wd_y 8 rfl (by kernel_rfl) rfl (y_ldI underlying3 rfl rfl (rdr 7 rfl) (by omega) (by omega)) ?_
    refine wd_y 9 rfl (by kernel_rfl) rfl (y_indexIn (q := 1) (rdR 1 (r := ⟨45, 2, (some ⟨g_7, 0, none⟩), 1, 1, [.int .i64 ((rdp l1 i).1), .int .i64 ((rdp l1 i).2)], false⟩) rfl) underlying45 sz3 rfl rfl (Nat.le_of_ble_eq_true rfl) (by decide) (by decide) rfl) <| wd_y 10 rfl (by kernel_rfl) rfl (y_ldIn (rdR 1 (r := ⟨45, 2, (some ⟨g_7, 0, none⟩), 1, 1, [.int .i64 ((rdp l1 i).1), .int .i64 ((rdp l1 i).2)], false⟩) rfl) underlying3 rfl rfl rfl) <| wd_y 11 rfl (by kernel_rfl) rfl (y_addI rfl rfl (by omega)) <| wd_y 12 rfl (by kernel_rfl) rfl (y_move rfl) <| wd_y 13 rfl (by kernel_rfl) rfl (y_index1 underlying24 sz3 rfl rfl (rdr 2 rfl) (by omega) (by omega)) <| wd_n 14 rfl (by kernel_rfl) (a_storeI 2 rfl sz3 rfl rfl (by omega) (by omega)) ?_
    rintro _ _ rfl
    refine ⟨.inl (by kernel_rfl), ?_⟩
    refine wd_rows (R1 := (⟨45, 2, (some ⟨g_9, 0, none⟩), 1, 1, [.int .i64 ((rdp l1 (i - 1)).1), .int .i64 ((rdp l1 (i - 1)).2)], false⟩ :: ⟨45, 2, (some ⟨g_7, 0, none⟩), 1, 1, [.int .i64 ((rdp l1 i).1), .int .i64 ((rdp l1 i).2)], false⟩ :: ⟨3, 1, (some ⟨g_5, 0, none⟩), rs.length, rs.length, ints .i64 (upd rk ((rd bs ((rdp l1 i).1)) + ((rdp l1 i).2)) (n + 1)), false⟩ :: ⟨3, 1, (some ⟨g_3, 0, none⟩), 1, 1, [.int .i64 h], false⟩ :: ⟨65, 1, (some ⟨g_1, 0, none⟩), 1, 1, [.pointer (some ⟨g_s, 0, none⟩)], false⟩ :: ⟨67, 4, (some ⟨g_s, 0, none⟩), 1, 1, [.slice A_w ws.length c_w, .slice A_t n_t c_t, .slice A_b bs.length c_b, .slice A_r rs.length c_r], false⟩ :: ⟨45, 2, A_o, ts.length, c_o, prs l1, false⟩ :: ⟨3, 1, A_b, bs.length, c_b, ints .i64 bs, false⟩ :: ⟨3, 1, A_r, rs.length, c_r, ints .i64 rs, false⟩ :: R)) rfl <| wd_nil (by kernel_rfl) <| w_reg <| wA rfl rfl rfl (by omega) <| wm rfl rfl <| wr_nil ?_
    exact ⟨i + 1, n + 1, upd rk ((rd bs ((rdp l1 i).1)) + ((rdp l1 i).2)) (n + 1), ⟨(by omega), (by omega), (by omega), (by rw [show i + 1 - 1 = i by omega, clsF_step (by omega), if_pos (by assumption), ← hn]), (by rw [upd, List.length_set]; exact hkl), (ranks_step hnd1 hij hi0 (by omega) hps (by unfold posT; omega) hrk (by have e : (i + 1 - 1) = i := (by omega); have hc := (by rw [show i + 1 - 1 = i by omega, clsF_step (by omega), if_pos (by assumption), ← hn] : _ = clsF ws bs rs h l1 (i + 1 - 1).toNat); rw [e] at hc; exact hc))⟩, (by omega), (sc rfl (sc rfl (sc rfl (sc rfl (sc rfl (sc rfl (sc rfl (sc rfl Sub.nil)))))))), fun _ h => h.selR (F := [_, _, _, _, _, _, _, _, _]) (F' := [_, _, _, _, _, _, _]) [2, 3, 4, 5, 6, 7, 8] (by decide) rfl⟩
   ·
    refine w_skip <| w_regd mixed <| wd_y 0 rfl (by kernel_rfl) rfl (y_move rfl) <| wd_y 1 rfl (by kernel_rfl) rfl (y_ldIn (rdR 4 (r := ⟨65, 1, (some ⟨g_1, 0, none⟩), 1, 1, [.pointer (some ⟨g_s, 0, none⟩)], false⟩) rfl) underlying65 rfl rfl rfl) <| wd_y 2 rfl (by kernel_rfl) rfl (y_nilCheck rfl) <| wd_y 3 rfl (by kernel_rfl) rfl (y_fieldAt (off := 2) (m := 2) underlying67 rfl sz24 rfl rfl rfl) <| wd_y 4 rfl (by kernel_rfl) rfl (y_ldIn (rdR 5 (r := ⟨67, 4, (some ⟨g_s, 0, none⟩), 1, 1, [.slice A_w ws.length c_w, .slice A_t n_t c_t, .slice A_b bs.length c_b, .slice A_r rs.length c_r], false⟩) rfl) underlying24 rfl rfl rfl) <| wd_y 5 rfl (by kernel_rfl) rfl (y_indexIn (q := 0) (rdR 1 (r := ⟨45, 2, (some ⟨g_7, 0, none⟩), 1, 1, [.int .i64 ((rdp l1 i).1), .int .i64 ((rdp l1 i).2)], false⟩) rfl) underlying45 sz3 rfl rfl (Nat.le_of_ble_eq_true rfl) (by decide) (by decide) rfl) <| wd_y 6 rfl (by kernel_rfl) rfl (y_ldIn (rdR 1 (r := ⟨45, 2, (some ⟨g_7, 0, none⟩), 1, 1, [.int .i64 ((rdp l1 i).1), .int .i64 ((rdp l1 i).2)], false⟩) rfl) underlying3 rfl rfl rfl) <| wd_y 7 rfl (by kernel_rfl) rfl (y_index1 underlying24 sz3 rfl rfl (rdr 7 rfl) (by omega) (by omega)) <| wd_y 8 rfl (by kernel_rfl) rfl (y_ldI underlying3 rfl rfl (rdr 7 rfl) (by omega) (by omega)) <| wd_y 9 rfl (by kernel_rfl) rfl (y_indexIn (q := 1) (rdR 1 (r := ⟨45, 2, (some ⟨g_7, 0, none⟩), 1, 1, [.int .i64 ((rdp l1 i).1), .int .i64 ((rdp l1 i).2)], false⟩) rfl) underlying45 sz3 rfl rfl (Nat.le_of_ble_eq_true rfl) (by decide) (by decide) rfl) <| wd_y 10 rfl (by kernel_rfl) rfl (y_ldIn (rdR 1 (r := ⟨45, 2, (some ⟨g_7, 0, none⟩), 1, 1, [.int .i64 ((rdp l1 i).1), .int .i64 ((rdp l1 i).2)], false⟩) rfl) underlying3 rfl rfl rfl) <| wd_y 11 rfl (by kernel_rfl) rfl (y_addI rfl rfl (by omega)) <| wd_y 12 rfl (by kernel_rfl) rfl (y_move rfl) ?_
    refine wd_y 13 rfl (by kernel_rfl) rfl (y_index1 underlying24 sz3 rfl rfl (rdr 2 rfl) (by omega) (by omega)) <| wd_n 14 rfl (by kernel_rfl) (a_storeI 2 rfl sz3 rfl rfl (by omega) (by omega)) ?_
    rintro _ _ rfl
    refine ⟨.inl (by kernel_rfl), ?_⟩
    refine wd_rows (R1 := (⟨45, 2, (some ⟨g_9, 0, none⟩), 1, 1, [.int .i64 ((rdp l1 (i - 1)).1), .int .i64 ((rdp l1 (i - 1)).2)], false⟩ :: ⟨45, 2, (some ⟨g_7, 0, none⟩), 1, 1, [.int .i64 ((rdp l1 i).1), .int .i64 ((rdp l1 i).2)], false⟩ :: ⟨3, 1, (some ⟨g_5, 0, none⟩), rs.length, rs.length, ints .i64 (upd rk ((rd bs ((rdp l1 i).1)) + ((rdp l1 i).2)) n), false⟩ :: ⟨3, 1, (some ⟨g_3, 0, none⟩), 1, 1, [.int .i64 h], false⟩ :: ⟨65, 1, (some ⟨g_1, 0, none⟩), 1, 1, [.pointer (some ⟨g_s, 0, none⟩)], false⟩ :: ⟨67, 4, (some ⟨g_s, 0, none⟩), 1, 1, [.slice A_w ws.length c_w, .slice A_t n_t c_t, .slice A_b bs.length c_b, .slice A_r rs.length c_r], false⟩ :: ⟨45, 2, A_o, ts.length, c_o, prs l1, false⟩ :: ⟨3, 1, A_b, bs.length, c_b, ints .i64 bs, false⟩ :: ⟨3, 1, A_r, rs.length, c_r, ints .i64 rs, false⟩ :: R)) rfl <| wd_nil (by kernel_rfl) <| w_reg <| wA rfl rfl rfl (by omega) <| wm rfl rfl <| wr_nil ?_
    exact ⟨i + 1, n, upd rk ((rd bs ((rdp l1 i).1)) + ((rdp l1 i).2)) n, ⟨(by omega), (by omega), (by omega), (by rw [show i + 1 - 1 = i by omega, clsF_step (by omega), if_neg (by assumption), ← hn, Int.add_zero]), (by rw [upd, List.length_set]; exact hkl), (ranks_step hnd1 hij hi0 (by omega) hps (by unfold posT; omega) hrk (by have e : (i + 1 - 1) = i := (by omega); have hc := (by rw [show i + 1 - 1 = i by omega, clsF_step (by omega), if_neg (by assumption), ← hn, Int.add_zero] : _ = clsF ws bs rs h l1 (i + 1 - 1).toNat); rw [e] at hc; exact hc))⟩, (by omega), (sc rfl (sc rfl (sc rfl (sc rfl (sc rfl (sc rfl (sc rfl (sc rfl Sub.nil)))))))), fun _ h => h.selR (F := [_, _, _, _, _, _, _, _, _]) (F' := [_, _, _, _, _, _, _]) [2, 3, 4, 5, 6, 7, 8] (by decide) rfl⟩
  ·
   refine w_skip <| w_regd mixed <| wd_y 0 rfl (by kernel_rfl) rfl (y_move rfl) <| wd_y 1 rfl (by kernel_rfl) rfl (y_ldIn (rdR 3 (r := ⟨65, 1, (some ⟨g_1, 0, none⟩), 1, 1, [.pointer (some ⟨g_s, 0, none⟩)], false⟩) rfl) underlying65 rfl rfl rfl) <| wd_y 2 rfl (by kernel_rfl) rfl (y_nilCheck rfl) <| wd_y 3 rfl (by kernel_rfl) rfl (y_fieldAt (off := 2) (m := 2) underlying67 rfl sz24 rfl rfl rfl) <| wd_y 4 rfl (by kernel_rfl) rfl (y_ldIn (rdR 4 (r := ⟨67, 4, (some ⟨g_s, 0, none⟩), 1, 1, [.slice A_w ws.length c_w, .slice A_t n_t c_t, .slice A_b bs.length c_b, .slice A_r rs.length c_r], false⟩) rfl) underlying24 rfl rfl rfl) <| wd_y 5 rfl (by kernel_rfl) rfl (y_indexIn (q := 0) (rdR 0 (r := ⟨45, 2, (some ⟨g_7, 0, none⟩), 1, 1, [.int .i64 ((rdp l1 i).1), .int .i64 ((rdp l1 i).2)], false⟩) rfl) underlying45 sz3 rfl rfl (Nat.le_of_ble_eq_true rfl) (by decide) (by decide) rfl) <| wd_y 6 rfl (by kernel_rfl) rfl (y_ldIn (rdR 0 (r := ⟨45, 2, (some ⟨g_7, 0, none⟩), 1, 1, [.int .i64 ((rdp l1 i).1), .int .i64 ((rdp l1 i).2)], false⟩) rfl) underlying3 rfl rfl rfl) <| wd_y 7 rfl (by kernel_rfl) rfl (y_index1 underlying24 sz3 rfl rfl (rdr 6 rfl) (by omega) (by omega)) <| wd_y 8 rfl (by kernel_rfl) rfl (y_ldI underlying3 rfl rfl (rdr 6 rfl) (by omega) (by omega)) <| wd_y 9 rfl (by kernel_rfl) rfl (y_indexIn (q := 1) (rdR 0 (r := ⟨45, 2, (some ⟨g_7, 0, none⟩), 1, 1, [.int .i64 ((rdp l1 i).1), .int .i64 ((rdp l1 i).2)], false⟩) rfl) underlying45 sz3 rfl rfl (Nat.le_of_ble_eq_true rfl) (by decide) (by decide) rfl) <| wd_y 10 rfl (by kernel_rfl) rfl (y_ldIn (rdR 0 (r := ⟨45, 2, (some ⟨g_7, 0, none⟩), 1, 1, [.int .i64 ((rdp l1 i).1), .int .i64 ((rdp l1 i).2)], false⟩) rfl) underlying3 rfl rfl rfl) <| wd_y 11 rfl (by kernel_rfl) rfl (y_addI rfl rfl (by omega)) <| wd_y 12 rfl (by kernel_rfl) rfl (y_move rfl) ?_
   refine wd_y 13 rfl (by kernel_rfl) rfl (y_index1 underlying24 sz3 rfl rfl (rdr 1 rfl) (by omega) (by omega)) <| wd_n 14 rfl (by kernel_rfl) (a_storeI 1 rfl sz3 rfl rfl (by omega) (by omega)) ?_
   rintro _ _ rfl
   refine ⟨.inl (by kernel_rfl), ?_⟩
   refine wd_rows (R1 := (⟨45, 2, (some ⟨g_7, 0, none⟩), 1, 1, [.int .i64 ((rdp l1 i).1), .int .i64 ((rdp l1 i).2)], false⟩ :: ⟨3, 1, (some ⟨g_5, 0, none⟩), rs.length, rs.length, ints .i64 (upd rk ((rd bs ((rdp l1 i).1)) + ((rdp l1 i).2)) n), false⟩ :: ⟨3, 1, (some ⟨g_3, 0, none⟩), 1, 1, [.int .i64 h], false⟩ :: ⟨65, 1, (some ⟨g_1, 0, none⟩), 1, 1, [.pointer (some ⟨g_s, 0, none⟩)], false⟩ :: ⟨67, 4, (some ⟨g_s, 0, none⟩), 1, 1, [.slice A_w ws.length c_w, .slice A_t n_t c_t, .slice A_b bs.length c_b, .slice A_r rs.length c_r], false⟩ :: ⟨45, 2, A_o, ts.length, c_o, prs l1, false⟩ :: ⟨3, 1, A_b, bs.length, c_b, ints .i64 bs, false⟩ :: ⟨3, 1, A_r, rs.length, c_r, ints .i64 rs, false⟩ :: R)) rfl <| wd_nil (by kernel_rfl) <| w_reg <| wA rfl rfl rfl (by omega) <| wm rfl rfl <| wr_nil ?_
   exact ⟨i + 1, n, upd rk ((rd bs ((rdp l1 i).1)) + ((rdp l1 i).2)) n, ⟨(by omega), (by omega), (by omega), (by have h0 : i = 0 := (by omega); subst h0; exact hn), (by rw [upd, List.length_set]; exact hkl), (ranks_step hnd1 hij hi0 (by omega) hps (by unfold posT; omega) hrk (by have e : (i + 1 - 1) = i := (by omega); have hc := (by have h0 : i = 0 := (by omega); subst h0; exact hn : _ = clsF ws bs rs h l1 (i + 1 - 1).toNat); rw [e] at hc; exact hc))⟩, (by omega), (sc rfl (sc rfl (sc rfl (sc rfl (sc rfl (sc rfl (sc rfl (sc rfl Sub.nil)))))))), fun _ h => h.selR (F := [_, _, _, _, _, _, _, _]) (F' := [_, _, _, _, _, _, _]) [1, 2, 3, 4, 5, 6, 7] (by decide) rfl⟩
 ·
  refine w_exit <| wq <| wr_y rfl (y_ldIn (rdR 2 (r := ⟨65, 1, (some ⟨g_1, 0, none⟩), 1, 1, [.pointer (some ⟨g_s, 0, none⟩)], false⟩) rfl) underlying65 rfl rfl rfl) <| wm rfl rfl <| wr_y rfl (y_nilCheck rfl) <| wr_y rfl (y_fieldAt (off := 3) (m := 3) underlying67 rfl sz24 rfl rfl rfl) <| wr_n (a_storeAt 3 rfl rfl rfl sz24 rfl rfl rfl rfl (Nat.le_of_ble_eq_true rfl)) ?_
  rintro _ _ rfl
  refine wr_rows (R1 := (⟨3, 1, (some ⟨g_5, 0, none⟩), rs.length, rs.length, ints .i64 rk, false⟩ :: ⟨3, 1, (some ⟨g_3, 0, none⟩), 1, 1, [.int .i64 h], false⟩ :: ⟨65, 1, (some ⟨g_1, 0, none⟩), 1, 1, [.pointer (some ⟨g_s, 0, none⟩)], false⟩ :: ⟨67, 4, (some ⟨g_s, 0, none⟩), 1, 1, [.slice A_w ws.length c_w, .slice A_t n_t c_t, .slice A_b bs.length c_b, .slice (some ⟨g_5, 0, none⟩) rs.length rs.length], false⟩ :: ⟨45, 2, A_o, ts.length, c_o, prs l1, false⟩ :: ⟨3, 1, A_b, bs.length, c_b, ints .i64 bs, false⟩ :: ⟨3, 1, A_r, rs.length, c_r, ints .i64 rs, false⟩ :: R)) rfl <| wr_nil <| wq <| wm rfl rfl <| wg rfl rfl <| wr_nil <| w_retR (R1 := (⟨67, 4, (some ⟨g_s, 0, none⟩), 1, 1, [.slice A_w ws.length c_w, .slice A_t n_t c_t, .slice A_b bs.length c_b, .slice (some ⟨g_5, 0, none⟩) rs.length rs.length], false⟩ :: ⟨45, 2, A_o, ts.length, c_o, prs l1, false⟩ :: ⟨3, 1, A_b, bs.length, c_b, ints .i64 bs, false⟩ :: ⟨3, 1, (some ⟨g_5, 0, none⟩), rs.length, rs.length, ints .i64 rk, false⟩ :: R)) (fun _ h => h.selR (F := [_, _, _, _, _, _, _]) (F' := [_, _, _, _]) [3, 4, 5, 0] (by decide) rfl) ?_
  refine ⟨_, rfl, ?_⟩
  obtain rfl : i = l1.length := by omega
  refine ⟨l1, rk, _, _, ?_, hp1, hs1, hkl, fun j hj => hrk j (by omega), rfl⟩
  rw [hn, show ((l1.length : Int) - 1).toNat = l1.length - 1 by omega]

end Go.Proofs.YtdfcnalkdlifiaaGreat

/-! ## E28 -/
namespace Go.Eng
open Go Go.RowKit Go.Pure
section
variable {P : Program} {n : Nd} {B : Nat} {w0 : World} {L : Env} {R : List Row} {ty : TypeId}
/-- bytealg.MakeNoZero: a row of nothing yet, with room. -/
theorem a_noZero {f : FuncId} {fn : Func} {x : Operand} {ts : Array TypeId} {m : Nat} {ps : Array TypeId} {t e : TypeId} (hf : P.funcs[f]? = some fn) (hname : (fn.name == "runtime.NumGoroutine") = false) (hb : fn.body.isNone = true) (hn : Extern.findNext fn = none) (he : Extern.find fn = some (Extern.BytealgMakeNoZero.makeNoZero ps #[t]))
  (ht : P.underlying t = some (.slice e)) (hx : ev L x = some (.int .i64 (m : Int))) (hm : m ≤ 1000000) :
  Ac P n B w0 (.call { callee := .value (.func f), args := [x].toArray, argTypes := ts }) ty L R (fun v R' => ∃ g C, m ≤ C ∧ v = .slice (some ⟨g, 0, none⟩) m C ∧ R' = ⟨e, 1, some ⟨g, 0, none⟩, 0, C, ints .u8 [], false⟩ :: R) :=
 a_entry (vs := [.int .i64 (m : Int)]) (by simp [evs, hx]) fun w hw => by
  obtain ⟨cs, hr, hge, hle⟩ := Lib.run_makeNoZero (P := P) w ps t e ht m (by omega)
  have hp2 := ((hw.drawn (w.drawn + 1 + 1) (by omega)).newC cs e m hge (hle (by unfold maxLen; omega))).cut (k := 0) (Nat.zero_le _) (by simp)
  refine ⟨_, _, _, ?_, hp2, w.heap.size, cs.size, hge, rfl, by simp [ints]⟩
  rw [run_callFunc_extern hf hname hb hn he]
  rw [show [Value.int .i64 (m : Int)].toArray = #[.int .i64 m] from rfl, hr]
  rfl
/-- copy behind a row's end, into its room. -/
theorem a_copyEnd {x y : Operand} {t t2 e : TypeId} {pp : Option Addr} {g p dl dc c m2 c2 : Nat} {A2 : Option Addr} {k : IntKind} {D src : List Int} (i : Nat) (hi : R[i]? = some ⟨e, 1, some ⟨g, 0, none⟩, p, c, ints k D, false⟩) (ht : P.underlying t = some (.slice e)) (hst : (P.info? e).map (·.size) = some 1)
  (hx : ev L x = some (.slice pp dl dc)) (hy : ev L y = some (.slice A2 m2 c2)) (hpp : pp = some ⟨g, p, none⟩) (hdl : p + dl ≤ c) (hrd : RdC B w0 R A2 m2 c2 1 (ints k src)) :
  Ac P n B w0 (.call { callee := .builtin .copy, args := #[x, y], argTypes := #[t, t2] }) ty L R (fun v R' => v = .int .i64 ((min m2 dl : Nat) : Int) ∧ R' = R.set i ⟨e, 1, some ⟨g, 0, none⟩, p + min m2 dl, c, ints k (D ++ src.take (min m2 dl)), false⟩) := by
 intro a w o K Q ho hty hs hw hk
 have hown := Row.lies_w (hw.own _ (List.mem_of_getElem? hi)) rfl
 have hr2 := hrd w hw
 have hm2 : m2 = src.length := hr2.lenI
 have hl : p = D.length := by have := hown.1; rw [ints_length] at this; simp only at this; omega
 rcases hown.2 with ⟨hv, _⟩ | ⟨g', cap, cur, hv, hb, hg, hnc, hcm, hcs, htk⟩
 ·simp at hv
 simp only [Value.slice.injEq, Option.some.injEq, Addr.mk.injEq, and_true, true_and] at hv
 obtain ⟨rfl, rfl⟩ := hv
 simp only at htk hcs hnc hg hb
 rw [Nat.mul_one] at htk hcs
 subst hpp
 obtain ⟨q, hq⟩ : ∃ q, min m2 dl = q := ⟨_, rfl⟩
 rw [hq] at hk
 have hq' : Nat.min m2 dl = q := hq
 have hcl : (ints k (src.take q)).length = q := by rw [ints_length, List.length_take]; omega
 rcases Nat.eq_zero_or_pos m2 with hz | hpos
 ·have hq0 : q = 0 := by omega
  have hrun := run_copy_none (P := P) w t t2 o.type e (some ⟨g, p, none⟩) A2 dl dc m2 c2 ht hst (by rw [hz]; exact Nat.zero_min _)
  unfold Oper.wp execOp
  simp only [ho, resolve, invoke, builtin, Sem.run_bind, Sem.run_pure, Result.andThen_ok, List.map_toArray, List.map_cons, List.map_nil, hs.ev hx, hs.ev hy, hrun, Oper.upon]
  refine hk (.int .i64 ((0 : Nat) : Int)) w R hw ⟨by rw [hq0], ?_⟩
  rw [hq0]
  simp only [List.take_zero, List.append_nil, Nat.add_zero]
  exact (by
   apply List.ext_getElem?
   intro j
   rw [List.getElem?_set]
   split
   ·rename_i e; subst e; rw [if_pos (List.getElem?_eq_some_iff.1 hi).1, hi]
   ·rfl)
 ·obtain ⟨a2, rfl⟩ : ∃ a2, A2 = some a2 := by
   obtain ⟨a2, h, _⟩ := hr2.at_ 0 _ (List.getElem?_eq_getElem (by rw [ints_length]; omega))
   exact ⟨a2, h⟩
  have hrun := run_copy_row P w t t2 o.type e g p dl dc a2 m2 c2 cur e (ints k (src.take q)) ht hst hg (by rw [hcl]; exact hq.symm) (fun j v hv => by
   obtain ⟨b, h1, h2⟩ := hr2.at_ j v (by
    rw [ints, List.map_take] at hv
    rw [List.getElem?_take] at hv
    split at hv
    ·exact hv
    ·cases hv)
   obtain rfl := Option.some.inj h1
   exact h2) (by rw [hcl, hcs]; omega) (ints_one k _)
  rw [hcl] at hrun
  unfold Oper.wp execOp
  simp only [ho, resolve, invoke, builtin, Sem.run_bind, Sem.run_pure, Result.andThen_ok, List.map_toArray, List.map_cons, List.map_nil, hs.ev hx, hs.ev hy, hrun, Oper.upon]
  refine hk (.int .i64 (q : Int)) _ _ ?_ ⟨rfl, rfl⟩
  refine hw.upd hi (row := some g) ⟨rfl, rfl, rfl, by simp, fun j _ hj => setRow_other w g j _ (fun e => hj (by simp [e]))⟩ (Nat.le_refl _) (fun j hj => by cases hj; exact ⟨_, rfl, rfl⟩) ?_ (fun a' ha' => .inl ⟨a', ha', rfl⟩)
  unfold Row.lies
  simp only
  refine ⟨?_, .inr ⟨g, c, _, rfl, hb, setRow_heap w g cur _ e _ hg, by omega, hcm, ?_, ?_⟩⟩
  ·simp only [ints_length, List.length_append, List.length_take]; omega
  ·simp only [List.size_toArray, List.length_append, List.length_take, List.length_drop, Array.length_toList, ints_length]; omega
  ·simp only [Nat.mul_one]
   rw [ints_append, ← htk]
   have h1 : (cur.toList.take p ++ ints k (src.take q)).length = p + q := by
    rw [List.length_append, hcl, List.length_take, Array.length_toList]; omega
   rw [List.take_append, h1, List.take_of_length_le (by omega), Nat.sub_self, List.take_zero, List.append_nil]
theorem y_sliceH {x y : Operand} {t e : TypeId} {A : Option Addr} {m c sz : Nat} {k1 : IntKind} {vh : Int} (ht : P.underlying t = some (.slice e)) (hi : (P.info? e).map (·.size) = some sz) (hx : ev L x = some (.slice A m c)) (hy : ev L y = some (.int k1 vh)) (h0 : 0 ≤ vh) (hc : vh ≤ c) :
  Yl P n B w0 (.slice t x none (some y) none) ty L R (.slice A vh.toNat c) := by
 intro a w o ho _ hs hp
 obtain ⟨i0, hi0, hsz0⟩ := Option.map_eq_some_iff.1 hi
 have hel : P.elem t = e := by simp [Program.elem, ht]
 have ht' : P.underlying t = some (.slice (P.elem t)) := by rw [hel]; exact ht
 simp only [execOp, ho, Option.map_some, Option.map_none, hs.ev hx, hs.ev hy, Sem.run_bind, run_sliceAt_slice w t _ _ _ _ ht', run_slice_h w t A m c ht' k1 vh h0 hc, hel]
 have : (if c = 0 then A else Option.map (fun x => x.add 0) A) = A := by
  split
  ·rfl
  ·exact pat_zero A
 simp [sizeOf, typeInfo, hi0, hsz0, sliced, this]
theorem y_sliceHM {x y z : Operand} {t e : TypeId} {A : Option Addr} {m c h sz : Nat} {k1 k2 : IntKind} {vh vm : Int} (ht : P.underlying t = some (.slice e)) (hi : (P.info? e).map (·.size) = some sz) (hx : ev L x = some (.slice A m c)) (hy : ev L y = some (.int k1 vh)) (hz : ev L z = some (.int k2 vm)) (e1 : vh = (h : Int)) (e2 : vm = (h : Int)) (hc : h ≤ c) :
  Yl P n B w0 (.slice t x none (some y) (some z)) ty L R (.slice A h h) := by
 subst e1; subst e2
 intro a w o ho _ hs hp
 obtain ⟨i0, hi0, hsz0⟩ := Option.map_eq_some_iff.1 hi
 have hel : P.elem t = e := by simp [Program.elem, ht]
 have ht' : P.underlying t = some (.slice (P.elem t)) := by rw [hel]; exact ht
 simp only [execOp, ho, Option.map_some, Option.map_none, hs.ev hx, hs.ev hy, hs.ev hz, Sem.run_bind, run_sliceAt_slice w t _ _ _ _ ht', run_slice_hm w t A m c ht' k1 k2 (h : Int) (h : Int) (by omega) (by omega) (by omega), hel]
 have : (if h = 0 then A else Option.map (fun x => x.add 0) A) = A := by
  split
  ·rfl
  ·exact pat_zero A
 simp [sizeOf, typeInfo, hi0, hsz0, sliced, this]
/-- A row that is read only from now on: its room is asx we say. -/
theorem Row.lies_ro {w : World} {e sz m c c' : Nat} {A : Option Addr} {xs : List Value} (h : Row.lies B w ⟨e, sz, A, m, c, xs, false⟩) (hA : A ≠ none) (hc : m ≤ c') : Row.lies B w ⟨e, sz, A, m, c', xs, true⟩ := by
 have h1 := Row.lies_w h rfl
 unfold Row.lies
 simp only
 obtain ⟨hl, h2⟩ := h1
 simp only at hl h2
 rcases h2 with ⟨hv, _⟩ | ⟨g, cap, cur, hv, hb, hg, hnc, hcm, hcs, ht⟩
 ·simp only [Value.slice.injEq] at hv
  exact absurd hv.1 hA
 ·simp only [Value.slice.injEq] at hv
  obtain ⟨rfl, _, rfl⟩ := hv
  exact ⟨g, cur, _, rfl, hb, hg, by omega, hc, hl, ht⟩
theorem Hp.toRo {w : World} {e sz m c c' : Nat} {A : Option Addr} {xs : List Value} (h : Hp B w0 w (⟨e, sz, A, m, c, xs, false⟩ :: R)) (hA : A ≠ none) (hc : m ≤ c') : Hp B w0 w (⟨e, sz, A, m, c', xs, true⟩ :: R) :=
 ⟨h.below, h.base, fun r hr => by
  rcases List.mem_cons.1 hr with rfl | hr
  ·exact Row.lies_ro (h.own _ (.head _)) hA hc
  ·exact h.own r (.tail _ hr), by
  obtain ⟨h1, h2⟩ := List.pairwise_cons.1 h.apart
  exact List.pairwise_cons.2 ⟨fun r hr => h1 r hr, h2⟩, h.late⟩
theorem RdC.capI {A : Option Addr} {m c c' : Nat} {k : IntKind} {l : List Int} (h : RdC B w0 R A m c 1 (ints k l)) (hc : m ≤ c') : RdC B w0 R A m c' 1 (ints k l) := fun w hw =>
 let q := h w hw
 ⟨q.len, q.max, hc, q.at_⟩
structure RepI (u D : List Int) (N : Nat) (p : Int) : Prop where
 p0 : 0 ≤ p
 pN : p ≤ N
 up : (u.length : Int) ≤ p
 len : (D.length : Int) = p
 at_ : ∀ j : Nat, j < p → lt D j = om u j
 dvd : p = N ∨ (u.length : Int) ∣ p
theorem lt_app {D E : List Int} {j : Nat} : lt (D ++ E) j = if j < D.length then lt D j else lt E (j - D.length) := by
 unfold lt
 rw [List.getD_eq_getElem?_getD]
 split
 ·rw [List.getElem?_append_left (by omega), List.getD_eq_getElem?_getD]
 ·rw [List.getElem?_append_right (by omega), List.getD_eq_getElem?_getD]
theorem lt_take {D : List Int} {j q : Nat} (h : j < q) : lt (D.take q) j = lt D j := by
 unfold lt
 rw [List.getD_eq_getElem?_getD, List.getElem?_take_of_lt h, List.getD_eq_getElem?_getD]
theorem RepI.init {u : List Int} {N : Nat} (hu : u.length ≤ N) : RepI u ([] ++ u.take (min u.length N)) N ((min u.length N : Nat) : Int) := by
 have e : min u.length N = u.length := by omega
 rw [e, List.nil_append, List.take_length]
 exact ⟨by omega, by omega, by omega, rfl, fun j hj => (om_lt (by omega)).symm, .inr (Int.dvd_refl _)⟩
theorem RepI.step {u D : List Int} {N : Nat} {p : Int} (h : RepI u D N p) (hu : 0 < u.length) (hp : p < N) :
  RepI u (D ++ (D.take (min p N).toNat).take (min (min p N).toNat (N - p.toNat))) N (p + ((min (min p N).toNat (N - p.toNat) : Nat) : Int)) := by
 obtain ⟨p0, pN, up, len, at_, dvd⟩ := h
 have e : min p (N : Int) = p := by omega
 rw [e]
 obtain ⟨q, hq⟩ : ∃ q, min p.toNat (N - p.toNat) = q := ⟨_, rfl⟩
 rw [hq]
 have hd : (u.length : Int) ∣ p := dvd.resolve_left (by omega)
 refine ⟨by omega, by omega, by omega, by rw [List.length_append, List.length_take, List.length_take]; omega, fun j hj => ?_, ?_⟩
 ·rw [lt_app]
  split
  ·exact at_ j (by omega)
  ·rename_i hc
   rw [lt_take (by omega), lt_take (by omega), at_ _ (by omega)]
   obtain ⟨k, hk⟩ := hd
   have hk0 : 0 ≤ k := by
    rcases Int.lt_or_le k 0 with g | g
    ·have := Int.mul_nonneg (show (0 : Int) ≤ u.length by omega) (show 0 ≤ -k by omega)
     rw [Int.mul_neg] at this
     omega
    ·exact g
   have e3 : D.length = u.length * k.toNat := by
    have : (D.length : Int) = ((u.length * k.toNat : Nat) : Int) := by rw [len, hk, Int.natCast_mul, Int.toNat_of_nonneg hk0]
    exact_mod_cast this
   have := (om_per u).mul k.toNat (j - D.length)
   rw [← this, ← e3, Nat.sub_add_cancel (by omega)]
 ·rcases Nat.lt_or_ge q p.toNat with g | g
  ·left; omega
  ·right
   have : (q : Int) = p := by omega
   rw [this]
   exact Int.dvd_add hd hd
theorem RepI.done {u D : List Int} {cn : Int} {N : Nat} {p : Int} (h : RepI u D N p) (hp : ¬ p < N) (hN : N = cn.toNat * u.length) : D = rep u cn := by
 have hl := h.len
 have hpN := h.pN
 refine list_ext_rd (by rw [rep_length]; omega) fun j h0 h1 => ?_
 have h2 := h.at_ j.toNat (by omega)
 have h3 := rep_getD u cn.toNat j.toNat (by omega)
 rw [lt_rd, h2, ← h3]
 unfold rd rep
 rw [Int.toNat_natCast]
end
end Go.Eng

/-! ## S4 -/
namespace Go.Proofs
open Go.Shelf
def Tryz.laysRing_ren : Go.Shelf.Ren := ⟨fun | 6 => 63 | 15 => 70 | 14 => 93 | 28 => 104 | 29 => 105 | 20 => 124 | 21 => 125 | 22 => 126 | 23 => 127 | 24 => 128 | 25 => 129 | 26 => 130 | 27 => 131 | 46 => 144 | 47 => 133 | 48 => 134 | 49 => 145 | 50 => 146 | 57 => 158 | n => n, fun | 22 => 70 | 24 => 73 | 25 => 109 | 3 => 3 | 39 => 79 | 0 => 0 | 53 => 115 | 55 => 118 | 4 => 4 | 46 => 134 | 45 => 133 | 50 => 138 | 5 => 5 | 9 => 9 | 66 => 157 | 70 => 161 | 76 => 168 | 77 => 169 | n => n, fun | n => n⟩
theorem Tryz.laysRing : Go.Proofs.SlLaysF0.n6 Tryz.prog Tryz.laysRing_ren := {
 mixed := by kernel_rfl
 f6 := ⟨Tryz.f63.name, by decide, Tryz.func63.trans (congrArg some (by kernel_rfl))⟩
 f14 := ⟨Tryz.f93.name, by decide, Tryz.func93.trans (congrArg some (by kernel_rfl))⟩
 f15 := Tryz.func70.trans (congrArg some (by kernel_rfl))
 f20 := ⟨Tryz.f124.name, by decide, Tryz.func124.trans (congrArg some (by kernel_rfl))⟩
 f21 := ⟨Tryz.f125.name, by decide, Tryz.func125.trans (congrArg some (by kernel_rfl))⟩
 f22 := ⟨Tryz.f126.name, by decide, Tryz.func126.trans (congrArg some (by kernel_rfl))⟩
 f23 := ⟨Tryz.f127.name, by decide, Tryz.func127.trans (congrArg some (by kernel_rfl))⟩
 f24 := ⟨Tryz.f128.name, by decide, Tryz.func128.trans (congrArg some (by kernel_rfl))⟩
 f25 := ⟨Tryz.f129.name, by decide, Tryz.func129.trans (congrArg some (by kernel_rfl))⟩
 f26 := ⟨Tryz.f130.name, by decide, Tryz.func130.trans (congrArg some (by kernel_rfl))⟩
 f27 := ⟨Tryz.f131.name, by decide, Tryz.func131.trans (congrArg some (by kernel_rfl))⟩
 f28 := Tryz.func104.trans (congrArg some (by kernel_rfl))
 f29 := Tryz.func105.trans (congrArg some (by kernel_rfl))
 f46 := ⟨Tryz.f144.name, by decide, Tryz.func144.trans (congrArg some (by kernel_rfl))⟩
 f47 := Tryz.func133.trans (congrArg some (by kernel_rfl))
 f48 := Tryz.func134.trans (congrArg some (by kernel_rfl))
 f49 := ⟨Tryz.f145.name, by decide, Tryz.func145.trans (congrArg some (by kernel_rfl))⟩
 f50 := ⟨Tryz.f146.name, by decide, Tryz.func146.trans (congrArg some (by kernel_rfl))⟩
 f57 := ⟨Tryz.f158.name, by decide, Tryz.func158.trans (congrArg some (by kernel_rfl))⟩
 t0 := Tryz.underlying0
 a0 := Tryz.isAgg0
 z0 := Tryz.sizeOf0
 v0 := Tryz.zeroValue0
 t3 := Tryz.underlying3
 a3 := Tryz.isAgg3
 z3 := Tryz.sizeOf3
 v3 := Tryz.zeroValue3
 t4 := Tryz.underlying4
 a4 := Tryz.isAgg4
 z4 := Tryz.sizeOf4
 v4 := Tryz.zeroValue4
 t5 := Tryz.underlying5
 a5 := Tryz.isAgg5
 z5 := Tryz.sizeOf5
 v5 := Tryz.zeroValue5
 t9 := Tryz.underlying9
 a9 := Tryz.isAgg9
 z9 := Tryz.sizeOf9
 v9 := Tryz.zeroValue9
 t22 := Tryz.underlying70
 a22 := Tryz.isAgg70
 z22 := Tryz.sizeOf70
 v22 := Tryz.zeroValue70
 t25 := Tryz.underlying109
 a25 := Tryz.isAgg109
 z25 := Tryz.sizeOf109
 v25 := Tryz.zeroValue109
 t39 := Tryz.underlying79
 a39 := Tryz.isAgg79
 z39 := Tryz.sizeOf79
 v39 := Tryz.zeroValue79
 t45 := Tryz.underlying133
 a45 := Tryz.isAgg133
 z45 := Tryz.sizeOf133
 v45 := Tryz.zeroValue133
 t46 := Tryz.underlying134
 a46 := Tryz.isAgg134
 z46 := Tryz.sizeOf134
 v46 := Tryz.zeroValue134
 t50 := Tryz.underlying138
 a50 := Tryz.isAgg138
 z50 := Tryz.sizeOf138
 v50 := Tryz.zeroValue138
 t53 := Tryz.underlying115
 a53 := Tryz.isAgg115
 z53 := Tryz.sizeOf115
 v53 := Tryz.zeroValue115
 t55 := Tryz.underlying118
 a55 := Tryz.isAgg118
 z55 := Tryz.sizeOf118
 v55 := Tryz.zeroValue118
 t66 := Tryz.underlying157
 a66 := Tryz.isAgg157
 z66 := Tryz.sizeOf157
 v66 := Tryz.zeroValue157
 t70 := Tryz.underlying161
 a70 := Tryz.isAgg161
 z70 := Tryz.sizeOf161
 v70 := Tryz.zeroValue161
 t76 := Tryz.underlying168
 a76 := Tryz.isAgg168
 z76 := Tryz.sizeOf168
 v76 := Tryz.zeroValue168
 t77 := Tryz.underlying169
 a77 := Tryz.isAgg169
 z77 := Tryz.sizeOf169
 v77 := Tryz.zeroValue169 }
def Tryz.laysRow_ren : Go.Shelf.Ren := ⟨fun | 6 => 40 | 15 => 70 | 14 => 69 | 28 => 104 | 29 => 105 | 20 => 96 | 21 => 97 | 22 => 98 | 23 => 99 | 24 => 100 | 25 => 101 | 26 => 102 | 27 => 103 | 46 => 132 | 47 => 133 | 48 => 134 | 49 => 135 | 50 => 136 | 57 => 147 | n => n, fun | 22 => 22 | 24 => 23 | 25 => 78 | 3 => 3 | 39 => 79 | 0 => 0 | 53 => 115 | 55 => 118 | 4 => 4 | 46 => 134 | 45 => 133 | 50 => 138 | 5 => 5 | 9 => 9 | 66 => 157 | 70 => 161 | 76 => 168 | 77 => 169 | n => n, fun | n => n⟩
theorem Tryz.laysRow : Go.Proofs.SlLaysF.n6 Tryz.prog Tryz.laysRow_ren := {
 mixed := by kernel_rfl
 f6 := ⟨Tryz.f40.name, by decide, Tryz.func40.trans (congrArg some (by kernel_rfl))⟩
 f14 := ⟨Tryz.f69.name, by decide, Tryz.func69.trans (congrArg some (by kernel_rfl))⟩
 f15 := Tryz.func70.trans (congrArg some (by kernel_rfl))
 f20 := ⟨Tryz.f96.name, by decide, Tryz.func96.trans (congrArg some (by kernel_rfl))⟩
 f21 := ⟨Tryz.f97.name, by decide, Tryz.func97.trans (congrArg some (by kernel_rfl))⟩
 f22 := ⟨Tryz.f98.name, by decide, Tryz.func98.trans (congrArg some (by kernel_rfl))⟩
 f23 := ⟨Tryz.f99.name, by decide, Tryz.func99.trans (congrArg some (by kernel_rfl))⟩
 f24 := ⟨Tryz.f100.name, by decide, Tryz.func100.trans (congrArg some (by kernel_rfl))⟩
 f25 := ⟨Tryz.f101.name, by decide, Tryz.func101.trans (congrArg some (by kernel_rfl))⟩
 f26 := ⟨Tryz.f102.name, by decide, Tryz.func102.trans (congrArg some (by kernel_rfl))⟩
 f27 := ⟨Tryz.f103.name, by decide, Tryz.func103.trans (congrArg some (by kernel_rfl))⟩
 f28 := Tryz.func104.trans (congrArg some (by kernel_rfl))
 f29 := Tryz.func105.trans (congrArg some (by kernel_rfl))
 f46 := ⟨Tryz.f132.name, by decide, Tryz.func132.trans (congrArg some (by kernel_rfl))⟩
 f47 := Tryz.func133.trans (congrArg some (by kernel_rfl))
 f48 := Tryz.func134.trans (congrArg some (by kernel_rfl))
 f49 := ⟨Tryz.f135.name, by decide, Tryz.func135.trans (congrArg some (by kernel_rfl))⟩
 f50 := ⟨Tryz.f136.name, by decide, Tryz.func136.trans (congrArg some (by kernel_rfl))⟩
 f57 := ⟨Tryz.f147.name, by decide, Tryz.func147.trans (congrArg some (by kernel_rfl))⟩
 t0 := Tryz.underlying0
 a0 := Tryz.isAgg0
 z0 := Tryz.sizeOf0
 v0 := Tryz.zeroValue0
 t3 := Tryz.underlying3
 a3 := Tryz.isAgg3
 z3 := Tryz.sizeOf3
 v3 := Tryz.zeroValue3
 t4 := Tryz.underlying4
 a4 := Tryz.isAgg4
 z4 := Tryz.sizeOf4
 v4 := Tryz.zeroValue4
 t5 := Tryz.underlying5
 a5 := Tryz.isAgg5
 z5 := Tryz.sizeOf5
 v5 := Tryz.zeroValue5
 t9 := Tryz.underlying9
 a9 := Tryz.isAgg9
 z9 := Tryz.sizeOf9
 v9 := Tryz.zeroValue9
 t22 := Tryz.underlying22
 a22 := Tryz.isAgg22
 z22 := Tryz.sizeOf22
 v22 := Tryz.zeroValue22
 a24 := Tryz.isAgg23
 z24 := Tryz.sizeOf23
 t25 := Tryz.underlying78
 a25 := Tryz.isAgg78
 z25 := Tryz.sizeOf78
 v25 := Tryz.zeroValue78
 t39 := Tryz.underlying79
 a39 := Tryz.isAgg79
 z39 := Tryz.sizeOf79
 v39 := Tryz.zeroValue79
 t45 := Tryz.underlying133
 a45 := Tryz.isAgg133
 z45 := Tryz.sizeOf133
 v45 := Tryz.zeroValue133
 t46 := Tryz.underlying134
 a46 := Tryz.isAgg134
 z46 := Tryz.sizeOf134
 v46 := Tryz.zeroValue134
 t50 := Tryz.underlying138
 a50 := Tryz.isAgg138
 z50 := Tryz.sizeOf138
 v50 := Tryz.zeroValue138
 t53 := Tryz.underlying115
 a53 := Tryz.isAgg115
 z53 := Tryz.sizeOf115
 v53 := Tryz.zeroValue115
 t55 := Tryz.underlying118
 a55 := Tryz.isAgg118
 z55 := Tryz.sizeOf118
 v55 := Tryz.zeroValue118
 t66 := Tryz.underlying157
 a66 := Tryz.isAgg157
 z66 := Tryz.sizeOf157
 v66 := Tryz.zeroValue157
 t70 := Tryz.underlying161
 a70 := Tryz.isAgg161
 z70 := Tryz.sizeOf161
 v70 := Tryz.zeroValue161
 t76 := Tryz.underlying168
 a76 := Tryz.isAgg168
 z76 := Tryz.sizeOf168
 v76 := Tryz.zeroValue168
 t77 := Tryz.underlying169
 a77 := Tryz.isAgg169
 z77 := Tryz.sizeOf169
 v77 := Tryz.zeroValue169 }
end Go.Proofs

/-! ## N3 -/
namespace Go.Proofs.YtdfcnalkdlifiaaGreat
open Go Go.Eng Go.Pure
open Tryz
set_option linter.unusedVariables false
theorem mulN_ct {B : Nat} {w0 : World} {R : List Row} (x y : Nat) (hx : x ≤ 1000000) (hy : y ≤ 1000000) (h : x * y ≤ 1000000) : Ct Tryz.prog 42 #[.int .u64 ((x : Nat) : Int), .int .u64 ((y : Nat) : Int)] B w0 R (fun v R' => v = .tuple #[.int .u64 0, .int .u64 ((x * y : Nat) : Int)] ∧ R' = R) := by
 intro w hw
 have hc := Tryz.bits_Mul x y (by omega) (by omega) w
 rw [Nat.div_eq_of_lt (by omega), Nat.mod_eq_of_lt (by omega)] at hc
 refine hc.mono ?_
 rintro e w' ⟨rfl, rfl⟩
 exact ⟨_, R, rfl, hw, rfl, rfl⟩
theorem wrap_u64M {p : Int} (h : 0 ≤ p ∧ p ≤ 18446744073709551615) : IntKind.u64.wrap p = p := by rw [IntKind.wrap_u64]; omega
set_option maxRecDepth 100000 in
set_option maxHeartbeats 800000 in
theorem repeatB_ct {w : World} {A_u : Option Addr} {n_u c_u : Nat} {u : List Int} {cn : Int} (h_u : Rd w A_u n_u c_u 1 (ints .u8 u)) (hu : 0 < u.length) (hc : 1 ≤ cn) (hP : cn.toNat * u.length ≤ 8000) :
  Ct Tryz.prog 23 #[.slice A_u n_u c_u, .int .i64 cn] w.heap.size w [] (fun v R' => ∃ A c, v = .slice A (rep u cn).length c ∧ R' = [⟨5, 1, A, (rep u cn).length, c, ints .u8 (rep u cn), true⟩]) := by
 obtain rfl := h_u.lenI
 refine fn1 Tryz.func23 rfl rfl rfl ?_
 have m_u := h_u.max
 obtain ⟨N, hN1⟩ : ∃ N : Nat, u.length * cn.toNat = N := ⟨_, rfl⟩
 have hN2 : cn.toNat * u.length = N := by rw [Nat.mul_comm]; exact hN1
 have hN3 : u.length ≤ N := by rw [← hN2]; exact Nat.le_mul_of_pos_left _ (by omega)
 have hN4 : cn.toNat ≤ N := by rw [← hN1]; exact Nat.le_mul_of_pos_left _ hu
 refine wq <| wg rfl rfl <| wr_nil <| w_seq <| wq <| wm rfl rfl <| wr_y rfl (Yl.f (y_eq rfl rfl) (by omega)) <| wr_nil <| w_false rfl <| w_skip <| w_seq <| wq ?_
 refine wm rfl rfl <| wr_y rfl (Yl.f (y_lt rfl rfl) (by omega)) <| wr_nil <| w_false rfl <| w_skip <| wq <| wm rfl rfl <| wr_y rfl (y_len underlying23 rfl) <| wr_y rfl (Yl.is (y_conv underlying3 underlying79 rfl) (by rw [wrap_u64M (by omega)])) ?_
 refine wm rfl rfl <| wr_y rfl (Yl.is (y_conv underlying3 underlying79 rfl) (show Value.int .u64 (IntKind.u64.wrap cn) = Value.int .u64 ((cn.toNat : Nat) : Int) from by rw [wrap_u64M (by omega), Int.toNat_of_nonneg (by omega)])) <| wr_a rfl (a_callF en42 rfl (mulN_ct u.length cn.toNat (by omega) (by omega) (by omega))) ?_
 rw [hN1]
 rintro _ _ ⟨rfl, rfl⟩
 refine wm rfl rfl <| wX rfl rfl rfl <| wX rfl rfl rfl <| wg rfl rfl <| wg rfl rfl <| wr_nil <| w_seq <| wq <| wm rfl rfl <| wr_y rfl (Yl.f (y_gt rfl rfl) (by omega)) <| wm rfl rfl <| wr_yes rfl rfl <| wm rfl rfl <| wr_yes rfl rfl ?_
 refine wr_y rfl (Yl.f (y_gt rfl rfl) (by omega)) <| wr_y rfl (y_pickF rfl rfl) <| wr_nil <| w_false rfl <| w_skip <| wq <| wm rfl rfl <| wr_y rfl (y_convI underlying79 underlying3 rfl (by omega)) <| wg rfl rfl <| wr_nil <| w_seq <| wq <| wm rfl rfl ?_
 refine wr_y rfl (y_len underlying23 rfl) <| wr_y rfl (Yl.f (y_eq rfl rfl) (by omega)) <| wr_nil <| w_false rfl <| w_skip <| wq <| wm rfl rfl <| wg rfl rfl <| wr_nil <| w_seq <| wq <| wm rfl rfl <| wr_y rfl (Yl.f (y_gt rfl rfl) (by omega)) ?_
 refine wr_nil <| w_false rfl <| w_skip <| wq <| wm rfl rfl <| wr_a rfl (a_noZero (m := N) (ps := #[3]) Tryz.func43 (by kernel_rfl) (by kernel_rfl) (by kernel_rfl) (by kernel_rfl) underlying23 rfl (by omega)) ?_
 rintro _ _ ⟨g_1, C_2, hC, rfl, rfl⟩
 refine wm rfl rfl <| wm rfl rfl <| wr_y rfl (y_sliceHM (h := N) underlying23 sz5 rfl rfl rfl rfl rfl hC) <| wg rfl rfl <| wr_nil <| wq <| wm rfl rfl <| wm rfl rfl <| wr_a rfl (a_copyEnd (dl := N) 0 rfl underlying23 sz5 rfl rfl (rfl) (by omega) (h_u.c _)) ?_
 rintro _ _ ⟨rfl, rfl⟩
 refine wr_rows (R1 := [⟨5, 1, (some ⟨g_1, 0, none⟩), (0 + min u.length N), C_2, ints .u8 (([]) ++ List.take (min u.length N) u), false⟩]) rfl <| wg rfl rfl <| wr_nil <| w_seq <| w_block ?_
 refine w_loop3 (fun (p : Int) (n1 : Nat) (D : List Int) => [(7, .int .i64 ((N : Nat) : Int)), (8, .int .i64 ((N : Nat) : Int)), (9, .slice (some ⟨g_1, 0, none⟩) N N), (10, .int .i64 p)]) (fun (p : Int) (n1 : Nat) (D : List Int) => [⟨5, 1, (some ⟨g_1, 0, none⟩), n1, C_2, ints .u8 D, false⟩]) (fun (p : Int) (n1 : Nat) (D : List Int) => (n1 = D.length) ∧ (RepI u D N p)) (fun (p : Int) (n1 : Nat) (D : List Int) => (N - p).toNat) ?_ ?_
 ·
  exact ⟨((min u.length N : Nat) : Int), (0 + min u.length N), ([]) ++ List.take (min u.length N) u, ⟨(by rw [List.nil_append, List.length_take]; omega), (RepI.init hN3)⟩, (sc rfl (sc rfl (sc rfl (sc rfl Sub.nil)))), fun _ h => h⟩
 intro p n1 D ⟨hn1, hI⟩
 have hI1 := hI.p0
 have hI2 := hI.pN
 have hI3 := hI.len
 have hI4 := hI.up
 refine w_seq <| wq <| wm rfl rfl <| wm rfl rfl <| wL rfl rfl rfl <| wr_nil <| w_if rfl (fun hc1 => ?_) (fun hc1 => ?_)
 ·
  refine w_skip <| w_block <| wq <| wm rfl rfl <| wm rfl rfl <| wr_y rfl (y_min rfl rfl) <| wg rfl rfl <| wr_nil <| w_regd mixed <| wd_y 0 rfl (by kernel_rfl) rfl (y_move rfl) <| wd_y 1 rfl (by kernel_rfl) rfl (y_move rfl) <| wd_y 2 rfl (by kernel_rfl) rfl (y_move rfl) <| wd_y 3 rfl (by kernel_rfl) rfl (y_sliceFrom underlying23 sz5 rfl rfl (by omega) (by omega)) <| wd_y 4 rfl (by kernel_rfl) rfl (y_move rfl) ?_
  refine wd_y 5 rfl (by kernel_rfl) rfl (y_move rfl) <| wd_y 6 rfl (by kernel_rfl) rfl (y_sliceH underlying23 sz5 rfl rfl (by omega) (by omega)) <| wd_a 7 rfl (by kernel_rfl) rfl (a_copyEnd (dl := (N - (p).toNat)) 0 rfl underlying23 sz5 rfl rfl (by rw [cut_addr (by omega), show p.toNat = n1 by omega]) (by omega) (RdC.capI (RdC.toI (rdr 0 rfl) (by omega)) (by omega))) ?_
  rintro _ _ ⟨rfl, rfl⟩
  refine ⟨.inl (by kernel_rfl), ?_⟩
  refine wd_rows (R1 := [⟨5, 1, (some ⟨g_1, 0, none⟩), (n1 + min ((min p ((N : Nat) : Int)).toNat) (N - (p).toNat)), C_2, ints .u8 (D ++ List.take (min ((min p ((N : Nat) : Int)).toNat) (N - (p).toNat)) ((D).take (min p ((N : Nat) : Int)).toNat)), false⟩]) rfl <| wd_y 8 rfl (by kernel_rfl) rfl (y_addI rfl rfl (by omega)) <| wd_y 9 rfl (by kernel_rfl) rfl (y_assign rfl) <| wd_nil (by kernel_rfl) ?_
  exact ⟨p + ((min ((min p ((N : Nat) : Int)).toNat) (N - (p).toNat) : Nat) : Int), (n1 + min ((min p ((N : Nat) : Int)).toNat) (N - (p).toNat)), D ++ List.take (min ((min p ((N : Nat) : Int)).toNat) (N - (p).toNat)) ((D).take (min p ((N : Nat) : Int)).toNat), ⟨(by rw [List.length_append, List.length_take, List.length_take]; omega), (hI.step hu (by omega))⟩, (by omega), (sc rfl (sc rfl (sc rfl (sc rfl Sub.nil)))), fun _ h => h⟩
 ·
  refine w_exit <| wq <| wm rfl rfl <| wg rfl rfl <| wr_nil ?_
  obtain rfl := hn1
  obtain rfl := hI.done (by omega) hN2.symm
  have hrl : (rep u cn).length = N := by rw [rep_length]; omega
  refine w_retR (R1 := [⟨5, 1, some ⟨g_1, 0, none⟩, (rep u cn).length, (rep u cn).length, ints .u8 (rep u cn), true⟩]) (fun _ h => h.toRo (by simp) (Nat.le_refl _)) ?_
  rw [← hrl]
  exact ⟨_, rfl, _, _, rfl, rfl⟩

theorem rdl_mem2 {ws : List (List Int)} {i : Int} (h0 : 0 ≤ i) (h1 : i < ws.length) : rdl ws i ∈ ws := by
 unfold rdl
 rw [List.getD_eq_getElem?_getD, List.getElem?_eq_getElem (by omega)]
 exact List.getElem_mem _
theorem take_succ_rdl2 {ws : List (List Int)} {i : Int} (h0 : 0 ≤ i) (h1 : i < ws.length) : ws.take (i + 1).toNat = ws.take i.toNat ++ [rdl ws i] := by
 rw [show (i + 1).toNat = i.toNat + 1 by omega, List.take_add_one, List.getElem?_eq_getElem (by omega)]
 unfold rdl
 rw [List.getD_eq_getElem?_getD, List.getElem?_eq_getElem (by omega)]
 rfl
theorem orL_kcmp (x y : List Int) (a b : Int) : orL [cmpL x y, cmpI a b] = kcmp (x, a) (y, b) := by
 unfold kcmp orL orL orL
 simp only
 split
 ·rfl
 ·split
  ·rfl
  ·omega
theorem rings_yes {ws : List (List Int)} {l : List RC} {i : Int} {A : Option Addr} {c : Nat} (h0 : 0 ≤ i) (h1 : i < ws.length) (hl : l.map RC.rt = ringsOf (ws.take i.toNat)) (ht : 0 < timesW (lw (rdl ws i))) : (l ++ [(⟨A, c, rootW (lw (rdl ws i)), timesW (lw (rdl ws i))⟩ : RC)]).map RC.rt = ringsOf (ws.take (i + 1).toNat) := by
 have hp : 0 < (rdl ws i).length := by
  rcases Nat.eq_zero_or_pos (rdl ws i).length with z | z
  ·rw [List.eq_nil_of_length_eq_zero z] at ht
   simp [lw_nil, timesW] at ht
  ·exact z
 rw [List.map_append, hl, take_succ_rdl2 h0 h1, ringsOf_append]
 congr 1
 unfold ringsOf
 simp [hp, RC.rt, ringOf]
theorem rings_no {ws : List (List Int)} {l : List RC} {i : Int} (h0 : 0 ≤ i) (h1 : i < ws.length) (hl : l.map RC.rt = ringsOf (ws.take i.toNat)) (ht : ¬ 0 < timesW (lw (rdl ws i))) : l.map RC.rt = ringsOf (ws.take (i + 1).toNat) := by
 have hp : (rdl ws i).length = 0 := by
  rcases Nat.eq_zero_or_pos (rdl ws i).length with z | z
  ·exact z
  ·exact absurd (times_pos (c := lw (rdl ws i)) (by rw [lw_len]; exact z)) ht
 rw [hl, take_succ_rdl2 h0 h1, ringsOf_append]
 unfold ringsOf
 simp [hp]
theorem ringsOf_few (ws : List (List Int)) : (ringsOf ws).length ≤ ws.length := by
 unfold ringsOf
 rw [List.length_map]
 exact List.length_filter_le _ _
theorem lw_bytes {u : List Int} (h : ByteL u) : ByteL (lw u) := ByteL.append (h.drop _) (h.take _)
theorem kcmp_swo : Go.Sort.SWO (Go.Proofs.ltOf fun x y : RC => kcmp x.rt y.rt) := by
 have e : ∀ x y : RC, Go.Proofs.ltOf (fun x y : RC => kcmp x.rt y.rt) x y = true ↔ kcmp x.rt y.rt < 0 := fun x y => by simp [Go.Proofs.ltOf]
 have e' : ∀ x y : RC, Go.Proofs.ltOf (fun x y : RC => kcmp x.rt y.rt) x y = false ↔ kcmp y.rt x.rt ≤ 0 := fun x y => by
  rw [← Bool.not_eq_true, e, kcmp_anti x.rt y.rt]; omega
 refine ⟨fun x => ?_, fun x y z h1 h2 => ?_, fun x y z h1 h2 => ?_⟩
 ·rw [e', (kcmp_eq x.rt x.rt).2 rfl]; omega
 ·rw [e] at h1 h2 ⊢
  have h3 := kcmp_le x.rt y.rt z.rt (by omega) (by omega)
  rcases Int.lt_or_eq_of_le h3 with g | g
  ·exact g
  ·have g2 := (kcmp_eq _ _).1 g
   rw [g2, kcmp_anti y.rt z.rt] at h1
   omega
 ·rw [e'] at h1 h2 ⊢
  exact kcmp_le _ _ _ h2 h1
set_option maxRecDepth 100000 in
theorem ringCmp_ct {w : World} {A_x : Option Addr} {c_x : Nat} {x : List Int} {t_x : Int} {A_y : Option Addr} {c_y : Nat} {y : List Int} {t_y : Int} (h_x : Rd w A_x x.length c_x 1 (ints .u8 x)) (h_y : Rd w A_y y.length c_y 1 (ints .u8 y)) (bh_x : ByteL x) (bh_y : ByteL y) :
  Ct Tryz.prog 64 #[.agg #[.slice A_x x.length c_x, .int .i64 t_x], .agg #[.slice A_y y.length c_y, .int .i64 t_y]] w.heap.size w [] (fun v R' => v = .int .i64 (kcmp (x, t_x) (y, t_y))) := by
 refine fn1 Tryz.func64 rfl rfl rfl ?_
 refine wq <| wr_a rfl (a_box (sz := 2) rfl rfl) ?_
 rintro _ _ ⟨g_1, rfl, rfl⟩
 refine wr_rows (R1 := [⟨73, 2, (some ⟨g_1, 0, none⟩), 1, 1, [.slice A_x x.length c_x, .int .i64 t_x], false⟩]) rfl <| wr_a rfl (a_box (sz := 2) rfl rfl) ?_
 rintro _ _ ⟨g_3, rfl, rfl⟩
 refine wr_rows (R1 := [⟨73, 2, (some ⟨g_3, 0, none⟩), 1, 1, [.slice A_y y.length c_y, .int .i64 t_y], false⟩, ⟨73, 2, (some ⟨g_1, 0, none⟩), 1, 1, [.slice A_x x.length c_x, .int .i64 t_x], false⟩]) rfl <| wg rfl rfl <| wr_nil <| w_seq <| w_regd mixed <| wd_y 0 rfl (by kernel_rfl) rfl (y_fieldAt (off := 0) (m := 0) underlying73 rfl sz23 rfl rfl rfl) <| wd_y 1 rfl (by kernel_rfl) rfl (y_ldIn (rdR 1 (r := ⟨73, 2, (some ⟨g_1, 0, none⟩), 1, 1, [.slice A_x x.length c_x, .int .i64 t_x], false⟩) rfl) underlying23 rfl rfl rfl) <| wd_y 2 rfl (by kernel_rfl) rfl (y_fieldAt (off := 0) (m := 0) underlying73 rfl sz23 rfl rfl rfl) <| wd_y 3 rfl (by kernel_rfl) rfl (y_ldIn (rdR 0 (r := ⟨73, 2, (some ⟨g_3, 0, none⟩), 1, 1, [.slice A_y y.length c_y, .int .i64 t_y], false⟩) rfl) underlying23 rfl rfl rfl) <| wd_y 5 rfl (by kernel_rfl) rfl (y_fieldAt (off := 1) (m := 1) underlying73 rfl sz3 rfl rfl rfl) <| wd_y 6 rfl (by kernel_rfl) rfl (y_ldIn (rdR 1 (r := ⟨73, 2, (some ⟨g_1, 0, none⟩), 1, 1, [.slice A_x x.length c_x, .int .i64 t_x], false⟩) rfl) underlying3 rfl rfl rfl) <| wd_y 7 rfl (by kernel_rfl) rfl (y_fieldAt (off := 1) (m := 1) underlying73 rfl sz3 rfl rfl rfl) <| wd_y 8 rfl (by kernel_rfl) rfl (y_ldIn (rdR 0 (r := ⟨73, 2, (some ⟨g_3, 0, none⟩), 1, 1, [.slice A_y y.length c_y, .int .i64 t_y], false⟩) rfl) underlying3 rfl rfl rfl) <| wd_a 4 rfl (by kernel_rfl) rfl (a_callF en41 rfl (Ct.quiet (fun w hw => compareBB_ct ((h_x.c _) w hw) ((h_y.c _) w hw) bh_x bh_y))) ?_
 rintro _ _ ⟨rfl, rfl⟩
 refine ⟨.inr fun _ h => h, ?_⟩
 refine wd_a 9 rfl (by kernel_rfl) rfl (a_callF en58 rfl (Ct.quiet (fun w hw => compareI_ct))) ?_
 rintro _ _ ⟨rfl, rfl⟩
 refine ⟨.inr fun _ h => h, ?_⟩
 refine wd_a 10 rfl (by kernel_rfl) rfl (a_litI .i64 [cmpL x y, cmpI t_x t_y] underlying24 zs3 rfl rfl rfl) ?_
 rintro _ _ ⟨g_6, rfl, rfl⟩
 refine ⟨.inr fun _ h => h.right (R' := [_]), ?_⟩
 refine wd_a 11 rfl (by kernel_rfl) rfl (a_callF en57 rfl (Ct.quiet (fun w hw => orI_ct ((rdr 0 rfl) w hw)))) ?_
 rintro _ _ ⟨rfl, rfl⟩
 refine ⟨.inr fun _ h => h, ?_⟩
 refine wd_y 12 rfl (by kernel_rfl) rfl (y_assign rfl) <| wd_nil (by kernel_rfl) <| w_retR (R1 := []) (fun _ h => h.sel [] (by decide) rfl) ?_
 refine ⟨_, rfl, ?_⟩
 exact congrArg (Value.int .i64) (orL_kcmp x y t_x t_y)

theorem sortsRings (cb : Array Value) : SortsK Tryz.prog 63 64 cb 2 := fun α _ enc hk h1 cf hO blk off cap d w hcmp hH hblk hsz =>
 AnyQ.slices_SortFunc Tryz.laysRing 2 (fun w => by kernel_rfl) (fun w => by kernel_rfl) enc hk h1 cf hO 64 cb blk off cap d w en64 hcmp hH hblk hsz
theorem sortsRings0 : SortsNone Tryz.prog 63 := fun p cap fv w => AnyF.slices_SortFunc_none Tryz.laysRing p cap fv w
set_option maxRecDepth 100000 in
set_option maxHeartbeats 1000000 in
theorem rings_ct {w : World} {A_ws : Option Addr} {n_ws c_ws : Nat} {vals_ws : List Value} {ws : List (List Int)} (h_ws : Rd w A_ws n_ws c_ws 1 vals_ws) (s_ws : SlW .u8 w vals_ws ws) (hN : (∀ w ∈ ws, w.length ≤ 8000) ∧ ws.length ≤ 100000) :
  Ct Tryz.prog 36 #[.slice A_ws n_ws c_ws] w.heap.size w [] (fun v R' => ∃ (A : Option Addr) (c : Nat) (l : List RC) (Rs : List Row), v = .slice A l.length c ∧ RgR Rs l ∧ l.map RC.rt = ringS ws ∧ R' = ⟨73, 2, A, l.length, c, rgs l, false⟩ :: Rs) := by
 obtain rfl : n_ws = ws.length := by have := h_ws.len; have := s_ws.1; omega
 refine fn1 Tryz.func36 rfl rfl rfl ?_
 have m_ws := h_ws.max
 have hob := s_ws.okB
 refine wq <| wg rfl rfl <| wr_nil <| wq <| wr_sub (R1 := (⟨73, 2, none, 0, 0, rgs ([]), false⟩ :: [])) (Sub.refl _) (fun _ h => h.nil 73 2) <| wg rfl rfl <| wr_nil <| w_seq <| wq <| wm rfl rfl <| wr_y rfl (y_len underlying22 rfl) <| wm rfl rfl ?_
 refine wr_nil <| w_block ?_
 refine w_loop6 (fun (i : Int) (A1 : Option Addr) (n1 : Nat) (c1 : Nat) (l : List RC) (Rs : List Row) => [(3, .slice A1 n1 c1), (8, .slice A_ws ws.length c_ws), (9, .int .i64 ((ws.length : Nat) : Int)), (10, .int .i64 i)]) (fun (i : Int) (A1 : Option Addr) (n1 : Nat) (c1 : Nat) (l : List RC) (Rs : List Row) => (⟨73, 2, A1, n1, c1, rgs l, false⟩ :: Rs)) (fun (i : Int) (A1 : Option Addr) (n1 : Nat) (c1 : Nat) (l : List RC) (Rs : List Row) => (0 ≤ i) ∧ (i ≤ ws.length) ∧ (n1 = l.length) ∧ (RgR Rs l) ∧ (l.map RC.rt = ringsOf (ws.take i.toNat))) (fun (i : Int) (A1 : Option Addr) (n1 : Nat) (c1 : Nat) (l : List RC) (Rs : List Row) => (ws.length - i).toNat) ?_ ?_
 ·
  exact ⟨0, none, 0, 0, [], [], ⟨(by omega), (by omega), (rfl), (RgR.nil _), (rfl)⟩, (sc rfl (sc rfl (sc rfl (sc rfl Sub.nil)))), fun _ h => h⟩
 intro i A1 n1 c1 l Rs ⟨hi0, hi1, hn1, hrg, hl⟩
 have hll := congrArg List.length hl
 rw [List.length_map] at hll
 have hlf := ringsOf_few (ws.take i.toNat)
 rw [List.length_take] at hlf
 have hwl : 0 ≤ i → i < ws.length → (rdl ws i).length ≤ 8000 := fun h h' => hN.1 _ (rdl_mem2 h h')
 refine wq <| wL rfl rfl rfl <| wr_nil <| w_seq <| w_if rfl (fun hc1 => ?_) (fun hc1 => ?_)
 ·
  have hwl2 := hwl hi0 (by omega)
  refine w_skip <| w_seq <| w_block <| wq <| wr_y rfl (y_index1 underlying22 sz23 rfl rfl (h_ws.c _) (by omega) (by omega)) ?_
  refine s_ws.elim (i := i) (by omega) (by omega) (fun A_1 c_2 hv_3 hr_4 hb_5 mhr_4 => ?_)
  refine wr_y rfl (y_ld underlying23 rfl rfl rfl (h_ws.c _) hv_3) <| wg rfl rfl <| wr_nil <| wq <| wm rfl rfl <| wr_a rfl (a_callF en62 rfl (Ct.fresh (fun w hw => ofL_ct ((hr_4.c _) w hw) (byteL_wf hb_5) (by omega)))) ?_
  rintro _ _ ⟨_, rfl, A_6, c_7, rfl, rfl⟩
  refine wr_a rfl (a_callF en61 rfl (Ct.fresh (fun w hw => rootP_ct ((rdr 0 rfl) w hw) (by rw [lw_len]; omega)))) ?_
  rintro _ _ ⟨_, rfl, A_9, c_10, rfl, rfl⟩
  refine wm rfl rfl <| wX rfl rfl rfl <| wX rfl rfl rfl <| wg rfl rfl <| wg rfl rfl <| wr_nil <| wq <| wm rfl rfl <| wr_y rfl (y_gt rfl rfl) <| wr_nil <| w_if rfl (fun hc2 => ?_) (fun hc2 => ?_)
  ·
   refine w_reg <| wm rfl rfl <| wm rfl rfl <| wm rfl rfl <| wr_y rfl (y_build (v := .agg #[.slice A_9 ((rootW (lw (rdl ws i))).length) c_10, .int .i64 (timesW (lw (rdl ws i)))]) rfl (fun w => by kernel_rfl)) <| wr_a rfl (a_litR ⟨A_9, c_10, rootW (lw (rdl ws i)), timesW (lw (rdl ws i))⟩ underlying70 zs73 rfl) ?_
   rintro _ _ ⟨g_12, rfl, rfl⟩
   refine wr_a rfl (a_appendR 3 rfl underlying70 zb73 rfl rfl rfl rfl (rdr 0 rfl) (by omega)) ?_
   rintro _ _ ⟨A_13, c_14, rfl, rfl⟩
   refine wr_rows (R1 := (⟨73, 2, (some ⟨g_12, 0, none⟩), 1, 1, rgs ([⟨A_9, c_10, rootW (lw (rdl ws i)), timesW (lw (rdl ws i))⟩]), false⟩ :: ⟨5, 1, A_9, (rootW (lw (rdl ws i))).length, c_10, ints .u8 (rootW (lw (rdl ws i))), false⟩ :: ⟨5, 1, A_6, (lw (rdl ws i)).length, c_7, ints .u8 (lw (rdl ws i)), false⟩ :: ⟨73, 2, A_13, (n1 + 1), c_14, rgs (l ++ ([⟨A_9, c_10, rootW (lw (rdl ws i)), timesW (lw (rdl ws i))⟩])), false⟩ :: Rs)) rfl <| wr_as (v := .slice A_13 (n1 + 1) c_14) rfl <| wg rfl rfl <| wr_nil <| w_reg <| wA rfl rfl rfl (by omega) <| wm rfl rfl <| wr_nil ?_
   exact ⟨i + 1, A_13, n1 + 1, c_14, l ++ ([⟨A_9, c_10, rootW (lw (rdl ws i)), timesW (lw (rdl ws i))⟩]), (⟨5, 1, A_9, (rootW (lw (rdl ws i))).length, c_10, ints .u8 (rootW (lw (rdl ws i))), false⟩ :: Rs), ⟨(by omega), (by omega), (by rw [List.length_append, hn1]; rfl), (hrg.snoc rfl (ByteL.take (lw_bytes (hob _ (rdl_mem2 hi0 (by omega))).1) _)), (rings_yes hi0 (by omega) hl (by assumption))⟩, (by omega), (sc rfl (sc rfl (sc rfl (sc rfl Sub.nil)))), fun _ h => h.selR (F := [_, _, _, _]) (F' := [_, _]) [3, 1] (by decide) rfl⟩
  ·
   refine w_skip <| w_reg <| wA rfl rfl rfl (by omega) <| wm rfl rfl <| wr_nil ?_
   exact ⟨i + 1, A1, n1, c1, l, Rs, ⟨(by omega), (by omega), (hn1), (hrg), (rings_no hi0 (by omega) hl (by assumption))⟩, (by omega), (sc rfl (sc rfl (sc rfl (sc rfl Sub.nil)))), fun _ h => h.selR (F := [_, _, _]) (F' := [_]) [2] (by decide) rfl⟩
 ·
  obtain rfl := hn1
  obtain rfl : i = ws.length := by omega
  rw [Int.toNat_natCast, List.take_length] at hl
  refine w_exit <| wq <| wm rfl rfl <| wr_a rfl (a_callF en63 rfl (sort_cells (enc := encR) (sortsRings _) sortsRings0 (fun _ => rfl) encR_one (l := l) 0 rfl (by omega) (fun x y => kcmp x.rt y.rt) kcmp_swo (fun W hW x hx y hy => ringCmp_ct ((hrg x hx).2 _ _ _ hW) ((hrg y hy).2 _ _ _ hW) (hrg x hx).1 (hrg y hy).1))) ?_
  rintro _ _ ⟨rfl, l1, hp1, hs1, rfl⟩
  rw [← hp1.length_eq]
  refine wr_rows (R1 := (⟨73, 2, A1, l1.length, c1, rgs l1, false⟩ :: Rs)) rfl <| wr_nil <| wq <| wm rfl rfl <| wg rfl rfl <| wr_nil <| w_retR (R1 := (⟨73, 2, A1, l1.length, c1, rgs l1, false⟩ :: Rs)) (fun _ h => h) ?_
  refine ⟨_, rfl, ?_⟩
  exact ⟨_, _, l1, Rs, rfl, hrg.perm hp1, ringS_one ((hp1.map RC.rt).trans (by rw [hl])) (List.pairwise_map.2 (hs1.imp fun {a b} h => by rw [kcmp_anti a.rt b.rt] at h; omega)), rfl⟩

end Go.Proofs.YtdfcnalkdlifiaaGreat

/-! ## E29 -/
namespace Go.Eng
open Go Go.RowKit Go.Pure
section
variable {P : Program} {n : Nd} {B : Nat} {w0 : World} {L : Env} {R : List Row} {ty : TypeId}
theorem RdC.toV {A : Option Addr} {m h c : Nat} {xs : List Value} (hr : RdC B w0 R A m c 1 xs) (h2 : h ≤ m) : RdC B w0 R A h c 1 (xs.take h) := by
 have := hr.to h2
 rwa [Nat.mul_one] at this
theorem RdC.fromV {A : Option Addr} {m c l : Nat} {xs : List Value} (hr : RdC B w0 R A m c 1 xs) (h1 : l ≤ m) : RdC B w0 R (cutA A l c 1) (m - l) (c - l) 1 (xs.drop l) := fun w hw => by
 have h := hr.cut h1 (Nat.le_refl m) w hw
 have hl := (hr w hw).len
 rw [Nat.mul_one, Nat.mul_one, List.take_of_length_le (by rw [List.length_drop]; omega)] at h
 exact h
/-- A drawn region whose computing rests on some of the rows alone. -/
theorem w_regdc {id : Nat} {l : List Oper} {Q : PostC} {Rc : List Row} (hm : P.follows .mixedOrders = true) (hR : ∀ w, Hp B w0 w R → Hp B w0 w Rc) (h : WDc P n B w0 l.toArray Q.nrm l.toArray.size (Array.replicate l.toArray.size false) L R Rc) (hd : noDef n.rd l = true := by exact rfl) : W P n B w0 (.region id l.toArray true) Q L R := by
 intro a w hs hp
 refine wpIn_region_any hm (anyIn PQ_out hd _ _ _ _ <| wpAny_of_B _ _ _ _ _ (h a _ _ hs (hp.drawn _ (Nat.le_succ _)) hR (fun _ _ _ h => h) fun _ _ L' R' hs' hp' hk => ⟨L', R', hs', hp', hk⟩))
theorem RgR.left {Rs : List Row} {l : List RC} (h : RgR Rs l) (T : List Row) : RgR (Rs ++ T) l := h.weak fun _ _ _ hw => hw.left
theorem SlR.nilR (k : IntKind) (Rs : List Row) : SlR k Rs [] [] := ⟨rfl, fun j hj => by simp at hj⟩
theorem canon_ok {ws : List (List Int)} (h : OkB ws) : OkB (canon ws) := fun c hc => by
 obtain ⟨w, h1, h2, rfl⟩ := mem_canon hc
 have h3 := h w h1
 rw [lw_len]
 exact ⟨ByteL.append (h3.1.drop _) (h3.1.take _), h3.2⟩
theorem OkB.app {a b : List (List Int)} (ha : OkB a) (hb : OkB b) : OkB (a ++ b) := fun l hl => (List.mem_append.1 hl).elim (ha l) (hb l)
theorem canon_few (ws : List (List Int)) : (canon ws).length ≤ ws.length := by
 rw [canon_len]
 unfold ringsOf
 rw [List.length_map]
 exact List.length_filter_le _ _
end
end Go.Eng

/-! ## N4 -/
namespace Go.Proofs.YtdfcnalkdlifiaaGreat
open Go Go.Eng Go.Pure
open Tryz
set_option linter.unusedVariables false
theorem rt_step {β : Type} (f : RC → β) {lr : List RC} {i : Int} (h0 : 0 ≤ i) (h1 : i < lr.length) : (lr.take (i + 1).toNat).map f = (lr.take i.toNat).map f ++ [f (rdG lr i)] := by
 rw [show (i + 1).toNat = i.toNat + 1 by omega, List.take_add_one, List.getElem?_eq_getElem (by omega), List.map_append]
 unfold rdG
 rw [List.getD_eq_getElem?_getD, List.getElem?_eq_getElem (by omega)]
 rfl
theorem rt_done {lr : List RC} {ws : List (List Int)} {i : Int} (hl : lr.map RC.rt = ringS ws) (hi : (lr.length : Int) ≤ i) : (lr.take i.toNat).map RC.root = (ringS ws).map Prod.fst ∧ (lr.take i.toNat).map RC.times = (ringS ws).map Prod.snd := by
 rw [List.take_of_length_le (by omega), ← hl, List.map_map, List.map_map]
 exact ⟨rfl, rfl⟩
set_option maxRecDepth 100000 in
set_option maxHeartbeats 1500000 in
theorem rootsN_ct {w : World} {A_ws : Option Addr} {n_ws c_ws : Nat} {vals_ws : List Value} {ws : List (List Int)} (h_ws : Rd w A_ws n_ws c_ws 1 vals_ws) (s_ws : SlW .u8 w vals_ws ws) (hN : (∀ w ∈ ws, w.length ≤ 8000) ∧ ws.length ≤ 100000) :
  Ct Tryz.prog 20 #[.slice A_ws n_ws c_ws] w.heap.size w [] (fun v R' => ∃ (A : Option Addr) (c : Nat) (A2 : Option Addr) (c2 : Nat) (vals : List Value) (Rs : List Row), v = .tuple #[.slice A vals.length c, .slice A2 ((ringS ws).map Prod.snd).length c2] ∧ SlR .u8 Rs vals ((ringS ws).map Prod.fst) ∧ R' = ⟨23, 1, A, vals.length, c, vals, false⟩ :: ⟨3, 1, A2, ((ringS ws).map Prod.snd).length, c2, ints .i64 ((ringS ws).map Prod.snd), false⟩ :: Rs) := by
 obtain rfl : n_ws = ws.length := by have := h_ws.len; have := s_ws.1; omega
 refine fn2 Tryz.func20 rfl rfl rfl ?_
 have m_ws := h_ws.max
 refine wq <| wr_sub (R1 := (⟨23, 1, none, 0, 0, [], false⟩ :: [])) (Sub.refl _) (fun _ h => h.nil 23 1) <| wg rfl rfl <| wr_sub (R1 := (⟨3, 1, none, 0, 0, ints .i64 ([]), false⟩ :: ⟨23, 1, none, 0, 0, [], false⟩ :: [])) (Sub.refl _) (fun _ h => h.nil 3 1) <| wg rfl rfl <| wr_nil <| w_seq <| wq <| wm rfl rfl <| wr_a rfl (a_callF en36 rfl (Ct.fresh (fun w hw => rings_ct ((h_ws.c _) w hw) (s_ws.c hw) (by first | assumption | omega | decide)))) ?_
 rintro _ _ ⟨_, rfl, A_1, c_2, l_3, Rs_4, rfl, hrg_5, hlr_6, rfl⟩
 refine wr_sub (R1 := (⟨73, 2, A_1, l_3.length, c_2, rgs l_3, false⟩ :: ⟨3, 1, none, 0, 0, ints .i64 ([]), false⟩ :: ⟨23, 1, none, 0, 0, [], false⟩ :: Rs_4)) (Sub.refl _) (fun _ h => Hp.toTail0 (X := [_]) (Y := [_, _]) h) <| wr_y rfl (y_len underlying70 rfl) <| wm rfl rfl <| wr_nil <| w_block ?_
 refine w_loop10 (fun (i : Int) (A1 : Option Addr) (n1 : Nat) (c1 : Nat) (vals : List Value) (ls : List (List Int)) (A2 : Option Addr) (n2 : Nat) (c2 : Nat) (ts : List Int) => [(2, .slice A1 n1 c1), (3, .slice A2 n2 c2), (7, .slice A_1 l_3.length c_2), (8, .int .i64 ((l_3.length : Nat) : Int)), (9, .int .i64 i)]) (fun (i : Int) (A1 : Option Addr) (n1 : Nat) (c1 : Nat) (vals : List Value) (ls : List (List Int)) (A2 : Option Addr) (n2 : Nat) (c2 : Nat) (ts : List Int) => (⟨73, 2, A_1, l_3.length, c_2, rgs l_3, false⟩ :: ⟨3, 1, A2, n2, c2, ints .i64 ts, false⟩ :: ⟨23, 1, A1, n1, c1, vals, false⟩ :: Rs_4)) (fun (i : Int) (A1 : Option Addr) (n1 : Nat) (c1 : Nat) (vals : List Value) (ls : List (List Int)) (A2 : Option Addr) (n2 : Nat) (c2 : Nat) (ts : List Int) => (0 ≤ i) ∧ (i ≤ l_3.length) ∧ (n1 = vals.length) ∧ (n2 = ts.length) ∧ (SlR .u8 Rs_4 vals ls) ∧ (ls = (l_3.take i.toNat).map RC.root) ∧ (ts = (l_3.take i.toNat).map RC.times)) (fun (i : Int) (A1 : Option Addr) (n1 : Nat) (c1 : Nat) (vals : List Value) (ls : List (List Int)) (A2 : Option Addr) (n2 : Nat) (c2 : Nat) (ts : List Int) => (l_3.length - i).toNat) ?_ ?_
 ·
  exact ⟨0, none, 0, 0, [], [], none, 0, 0, [], ⟨(by omega), (by omega), (rfl), (rfl), (SlR.nilR _ _), (rfl), (rfl)⟩, (sc rfl (sc rfl (sc rfl (sc rfl (sc rfl Sub.nil))))), fun _ h => h⟩
 intro i A1 n1 c1 vals ls A2 n2 c2 ts ⟨hi0, hi1, hn1, hn2, hsl, hls, hts⟩
 have hll := congrArg List.length hls
 rw [List.length_map, List.length_take] at hll
 have hlt := congrArg List.length hts
 rw [List.length_map, List.length_take] at hlt
 have hsn := hsl.1
 have hfew : l_3.length ≤ ws.length := by have h1 := congrArg List.length hlr_6; rw [List.length_map, (ringS_perm ws).length_eq] at h1; have h2 := ringsOf_few ws; omega
 refine wq <| wL rfl rfl rfl <| wr_nil <| w_seq <| w_if rfl (fun hc1 => ?_) (fun hc1 => ?_)
 ·
  refine w_skip <| w_seq <| w_block <| wq <| wr_y rfl (y_index underlying70 sz73 rfl rfl (rdr 0 rfl) rfl (by omega) (by omega)) ?_
  have hr_8 := (hrg_5 _ (rdG_mem (l := l_3) (i := i) (by omega) (by omega))).2
  refine wr_y rfl (y_ldR underlying73 rfl sz73 rfl (rdr 0 rfl) (by omega) (by omega)) <| wr_a rfl (a_alloc (sz := 2) zz73 rfl) ?_
  rintro _ _ ⟨g_10, rfl, rfl⟩
  refine wr_rows (R1 := (⟨73, 2, (some ⟨g_10, 0, none⟩), 1, 1, [.slice none 0 0, .int .i64 0], false⟩ :: ⟨73, 2, A_1, l_3.length, c_2, rgs l_3, false⟩ :: ⟨3, 1, A2, n2, c2, ints .i64 ts, false⟩ :: ⟨23, 1, A1, n1, c1, vals, false⟩ :: Rs_4)) rfl <| wr_n (a_storeAll (vs := [.slice ((rdG l_3 i).A) ((rdG l_3 i).root.length) ((rdG l_3 i).c), .int .i64 ((rdG l_3 i).times)]) 0 rfl sz73 rfl rfl rfl (by intro v hv; simp at hv; rcases hv with rfl | rfl <;> rfl) rfl) ?_
  rintro _ _ rfl
  refine wr_rows (R1 := (⟨73, 2, (some ⟨g_10, 0, none⟩), 1, 1, [.slice ((rdG l_3 i).A) ((rdG l_3 i).root.length) ((rdG l_3 i).c), .int .i64 ((rdG l_3 i).times)], false⟩ :: ⟨73, 2, A_1, l_3.length, c_2, rgs l_3, false⟩ :: ⟨3, 1, A2, n2, c2, ints .i64 ts, false⟩ :: ⟨23, 1, A1, n1, c1, vals, false⟩ :: Rs_4)) rfl <| wr_nil <| w_regdc (Rc := (⟨73, 2, (some ⟨g_10, 0, none⟩), 1, 1, [.slice ((rdG l_3 i).A) ((rdG l_3 i).root.length) ((rdG l_3 i).c), .int .i64 ((rdG l_3 i).times)], false⟩ :: Rs_4)) mixed (fun _ h => h.selR (F := [_, _, _, _]) (F' := [_]) [0] (by decide) rfl) ?_
  refine cd_y 0 rfl (by kernel_rfl) rfl (y_move rfl) ?_
  refine cd_y 1 rfl (by kernel_rfl) rfl (y_fieldAt (off := 0) (m := 0) underlying73 rfl sz23 rfl rfl rfl) ?_
  refine cd_y 2 rfl (by kernel_rfl) rfl (y_ldIn (rdR 0 (r := ⟨73, 2, (some ⟨g_10, 0, none⟩), 1, 1, [.slice ((rdG l_3 i).A) ((rdG l_3 i).root.length) ((rdG l_3 i).c), .int .i64 ((rdG l_3 i).times)], false⟩) rfl) underlying23 rfl rfl rfl) ?_
  refine cd_y 5 rfl (by kernel_rfl) rfl (y_move rfl) ?_
  refine cd_y 6 rfl (by kernel_rfl) rfl (y_fieldAt (off := 1) (m := 1) underlying73 rfl sz3 rfl rfl rfl) ?_
  refine cd_y 7 rfl (by kernel_rfl) rfl (y_ldIn (rdR 0 (r := ⟨73, 2, (some ⟨g_10, 0, none⟩), 1, 1, [.slice ((rdG l_3 i).A) ((rdG l_3 i).root.length) ((rdG l_3 i).c), .int .i64 ((rdG l_3 i).times)], false⟩) rfl) underlying3 rfl rfl rfl) ?_
  refine cd_two 3 8 (by kernel_rfl) ?_ ?_
  ·
   refine c1_a 3 rfl rfl (a_lit [Value.slice ((rdG l_3 i).A) ((rdG l_3 i).root.length) ((rdG l_3 i).c)] underlying22 zs23 rfl rfl rfl rfl) ?_
   rintro _ _ ⟨g_12, rfl, rfl⟩
   refine ⟨fun _ h => h.selR (F := [_, _, _, _, _]) (F' := [_]) [1] (by decide) rfl, ?_⟩
   refine cd_two 4 8 (by kernel_rfl) ?_ ?_
   ·
    refine c1_a 4 rfl rfl (a_append 4 rfl rfl underlying22 zb23 rfl rfl rfl rfl rfl (rdr 0 rfl) (by simp [Value.oneCell']) (by dsimp only; omega)) ?_
    rintro _ _ ⟨A_13, c_14, rfl, rfl⟩
    refine ⟨fun _ h => h.selR (F := [_, _, _, _, _]) (F' := [_]) [1] (by decide) rfl, ?_⟩
    refine cd_rows (R1 := (⟨23, 1, (some ⟨g_12, 0, none⟩), 1, 1, [Value.slice ((rdG l_3 i).A) ((rdG l_3 i).root.length) ((rdG l_3 i).c)], false⟩ :: ⟨73, 2, (some ⟨g_10, 0, none⟩), 1, 1, [.slice ((rdG l_3 i).A) ((rdG l_3 i).root.length) ((rdG l_3 i).c), .int .i64 ((rdG l_3 i).times)], false⟩ :: ⟨73, 2, A_1, l_3.length, c_2, rgs l_3, false⟩ :: ⟨3, 1, A2, n2, c2, ints .i64 ts, false⟩ :: ⟨23, 1, A_13, (n1 + 1), c_14, vals ++ ([Value.slice ((rdG l_3 i).A) ((rdG l_3 i).root.length) ((rdG l_3 i).c)]), false⟩ :: Rs_4)) rfl ?_
    refine cd_as (v := .slice A_13 (n1 + 1) c_14) rfl ?_
    refine cd_one 8 (by kernel_rfl) ?_
    refine c1_a 8 rfl rfl (a_litI .i64 [(rdG l_3 i).times] underlying24 zs3 rfl rfl rfl) ?_
    rintro _ _ ⟨g_16, rfl, rfl⟩
    refine ⟨fun _ h => h.selR (F := [_, _, _, _, _, _]) (F' := [_]) [2] (by decide) rfl, ?_⟩
    refine cd_one 9 (by kernel_rfl) ?_
    refine c1_a 9 rfl rfl (a_appendI 4 rfl underlying24 zb3 rfl rfl rfl (rdr 0 rfl) (by omega)) ?_
    rintro _ _ ⟨A_17, c_18, rfl, rfl⟩
    refine ⟨fun _ h => h.selR (F := [_, _, _, _, _, _]) (F' := [_]) [2] (by decide) rfl, ?_⟩
    refine cd_rows (R1 := (⟨3, 1, (some ⟨g_16, 0, none⟩), 1, 1, ints .i64 ([(rdG l_3 i).times]), false⟩ :: ⟨23, 1, (some ⟨g_12, 0, none⟩), 1, 1, [Value.slice ((rdG l_3 i).A) ((rdG l_3 i).root.length) ((rdG l_3 i).c)], false⟩ :: ⟨73, 2, (some ⟨g_10, 0, none⟩), 1, 1, [.slice ((rdG l_3 i).A) ((rdG l_3 i).root.length) ((rdG l_3 i).c), .int .i64 ((rdG l_3 i).times)], false⟩ :: ⟨73, 2, A_1, l_3.length, c_2, rgs l_3, false⟩ :: ⟨3, 1, A_17, (n2 + 1), c_18, ints .i64 (ts ++ ([(rdG l_3 i).times])), false⟩ :: ⟨23, 1, A_13, (n1 + 1), c_14, vals ++ ([Value.slice ((rdG l_3 i).A) ((rdG l_3 i).root.length) ((rdG l_3 i).c)]), false⟩ :: Rs_4)) rfl ?_
    refine cd_as (v := .slice A_17 (n2 + 1) c_18) rfl ?_
    refine cd_y 10 rfl (by kernel_rfl) rfl (y_assign rfl) ?_
    refine cd_y 11 rfl (by kernel_rfl) rfl (y_assign rfl) ?_
    refine cd_nil (by kernel_rfl) ?_
    refine w_reg <| wA rfl rfl rfl (by omega) <| wm rfl rfl <| wr_nil ?_
    exact ⟨i + 1, A_13, n1 + 1, c_14, vals ++ ([Value.slice ((rdG l_3 i).A) ((rdG l_3 i).root.length) ((rdG l_3 i).c)]), (ls ++ [(rdG l_3 i).root]), A_17, n2 + 1, c_18, ts ++ ([(rdG l_3 i).times]), ⟨(by omega), (by omega), (by rw [List.length_append, hn1]; rfl), (by rw [List.length_append, hn2]; rfl), (hsl.push rfl (hrg_5 _ (rdG_mem hi0 (by omega))).2), (by rw [rt_step RC.root hi0 (by omega), ← hls]), (by rw [rt_step RC.times hi0 (by omega), ← hts])⟩, (by omega), (sc rfl (sc rfl (sc rfl (sc rfl (sc rfl Sub.nil))))), fun _ h => h.selR (F := [_, _, _, _, _, _]) (F' := [_, _, _]) [3, 4, 5] (by decide) rfl⟩
   ·
    refine c1_a 8 rfl rfl (a_litI .i64 [(rdG l_3 i).times] underlying24 zs3 rfl rfl rfl) ?_
    rintro _ _ ⟨g_20, rfl, rfl⟩
    refine ⟨fun _ h => h.selR (F := [_, _, _, _, _, _]) (F' := [_]) [2] (by decide) rfl, ?_⟩
    refine cd_one 4 (by kernel_rfl) ?_
    refine c1_a 4 rfl rfl (a_append 5 rfl rfl underlying22 zb23 rfl rfl rfl rfl rfl (rdr 1 rfl) (by simp [Value.oneCell']) (by dsimp only; omega)) ?_
    rintro _ _ ⟨A_21, c_22, rfl, rfl⟩
    refine ⟨fun _ h => h.selR (F := [_, _, _, _, _, _]) (F' := [_]) [2] (by decide) rfl, ?_⟩
    refine cd_rows (R1 := (⟨3, 1, (some ⟨g_20, 0, none⟩), 1, 1, ints .i64 ([(rdG l_3 i).times]), false⟩ :: ⟨23, 1, (some ⟨g_12, 0, none⟩), 1, 1, [Value.slice ((rdG l_3 i).A) ((rdG l_3 i).root.length) ((rdG l_3 i).c)], false⟩ :: ⟨73, 2, (some ⟨g_10, 0, none⟩), 1, 1, [.slice ((rdG l_3 i).A) ((rdG l_3 i).root.length) ((rdG l_3 i).c), .int .i64 ((rdG l_3 i).times)], false⟩ :: ⟨73, 2, A_1, l_3.length, c_2, rgs l_3, false⟩ :: ⟨3, 1, A2, n2, c2, ints .i64 ts, false⟩ :: ⟨23, 1, A_21, (n1 + 1), c_22, vals ++ ([Value.slice ((rdG l_3 i).A) ((rdG l_3 i).root.length) ((rdG l_3 i).c)]), false⟩ :: Rs_4)) rfl ?_
    refine cd_as (v := .slice A_21 (n1 + 1) c_22) rfl ?_
    refine cd_one 9 (by kernel_rfl) ?_
    refine c1_a 9 rfl rfl (a_appendI 4 rfl underlying24 zb3 rfl rfl rfl (rdr 0 rfl) (by omega)) ?_
    rintro _ _ ⟨A_23, c_24, rfl, rfl⟩
    refine ⟨fun _ h => h.selR (F := [_, _, _, _, _, _]) (F' := [_]) [2] (by decide) rfl, ?_⟩
    refine cd_rows (R1 := (⟨3, 1, (some ⟨g_20, 0, none⟩), 1, 1, ints .i64 ([(rdG l_3 i).times]), false⟩ :: ⟨23, 1, (some ⟨g_12, 0, none⟩), 1, 1, [Value.slice ((rdG l_3 i).A) ((rdG l_3 i).root.length) ((rdG l_3 i).c)], false⟩ :: ⟨73, 2, (some ⟨g_10, 0, none⟩), 1, 1, [.slice ((rdG l_3 i).A) ((rdG l_3 i).root.length) ((rdG l_3 i).c), .int .i64 ((rdG l_3 i).times)], false⟩ :: ⟨73, 2, A_1, l_3.length, c_2, rgs l_3, false⟩ :: ⟨3, 1, A_23, (n2 + 1), c_24, ints .i64 (ts ++ ([(rdG l_3 i).times])), false⟩ :: ⟨23, 1, A_21, (n1 + 1), c_22, vals ++ ([Value.slice ((rdG l_3 i).A) ((rdG l_3 i).root.length) ((rdG l_3 i).c)]), false⟩ :: Rs_4)) rfl ?_
    refine cd_as (v := .slice A_23 (n2 + 1) c_24) rfl ?_
    refine cd_y 10 rfl (by kernel_rfl) rfl (y_assign rfl) ?_
    refine cd_y 11 rfl (by kernel_rfl) rfl (y_assign rfl) ?_
    refine cd_nil (by kernel_rfl) ?_
    refine w_reg <| wA rfl rfl rfl (by omega) <| wm rfl rfl <| wr_nil ?_
    exact ⟨i + 1, A_21, n1 + 1, c_22, vals ++ ([Value.slice ((rdG l_3 i).A) ((rdG l_3 i).root.length) ((rdG l_3 i).c)]), (ls ++ [(rdG l_3 i).root]), A_23, n2 + 1, c_24, ts ++ ([(rdG l_3 i).times]), ⟨(by omega), (by omega), (by rw [List.length_append, hn1]; rfl), (by rw [List.length_append, hn2]; rfl), (hsl.push rfl (hrg_5 _ (rdG_mem hi0 (by omega))).2), (by rw [rt_step RC.root hi0 (by omega), ← hls]), (by rw [rt_step RC.times hi0 (by omega), ← hts])⟩, (by omega), (sc rfl (sc rfl (sc rfl (sc rfl (sc rfl Sub.nil))))), fun _ h => h.selR (F := [_, _, _, _, _, _]) (F' := [_, _, _]) [3, 4, 5] (by decide) rfl⟩
  ·
   refine c1_a 8 rfl rfl (a_litI .i64 [(rdG l_3 i).times] underlying24 zs3 rfl rfl rfl) ?_
   rintro _ _ ⟨g_26, rfl, rfl⟩
   refine ⟨fun _ h => h.selR (F := [_, _, _, _, _]) (F' := [_]) [1] (by decide) rfl, ?_⟩
   refine cd_one 3 (by kernel_rfl) ?_
   refine c1_a 3 rfl rfl (a_lit [Value.slice ((rdG l_3 i).A) ((rdG l_3 i).root.length) ((rdG l_3 i).c)] underlying22 zs23 rfl rfl rfl rfl) ?_
   rintro _ _ ⟨g_28, rfl, rfl⟩
   refine ⟨fun _ h => h.selR (F := [_, _, _, _, _, _]) (F' := [_]) [2] (by decide) rfl, ?_⟩
   refine cd_one 4 (by kernel_rfl) ?_
   refine c1_a 4 rfl rfl (a_append 5 rfl rfl underlying22 zb23 rfl rfl rfl rfl rfl (rdr 0 rfl) (by simp [Value.oneCell']) (by dsimp only; omega)) ?_
   rintro _ _ ⟨A_29, c_30, rfl, rfl⟩
   refine ⟨fun _ h => h.selR (F := [_, _, _, _, _, _]) (F' := [_]) [2] (by decide) rfl, ?_⟩
   refine cd_rows (R1 := (⟨23, 1, (some ⟨g_28, 0, none⟩), 1, 1, [Value.slice ((rdG l_3 i).A) ((rdG l_3 i).root.length) ((rdG l_3 i).c)], false⟩ :: ⟨3, 1, (some ⟨g_26, 0, none⟩), 1, 1, ints .i64 ([(rdG l_3 i).times]), false⟩ :: ⟨73, 2, (some ⟨g_10, 0, none⟩), 1, 1, [.slice ((rdG l_3 i).A) ((rdG l_3 i).root.length) ((rdG l_3 i).c), .int .i64 ((rdG l_3 i).times)], false⟩ :: ⟨73, 2, A_1, l_3.length, c_2, rgs l_3, false⟩ :: ⟨3, 1, A2, n2, c2, ints .i64 ts, false⟩ :: ⟨23, 1, A_29, (n1 + 1), c_30, vals ++ ([Value.slice ((rdG l_3 i).A) ((rdG l_3 i).root.length) ((rdG l_3 i).c)]), false⟩ :: Rs_4)) rfl ?_
   refine cd_as (v := .slice A_29 (n1 + 1) c_30) rfl ?_
   refine cd_one 9 (by kernel_rfl) ?_
   refine c1_a 9 rfl rfl (a_appendI 4 rfl underlying24 zb3 rfl rfl rfl (rdr 1 rfl) (by omega)) ?_
   rintro _ _ ⟨A_31, c_32, rfl, rfl⟩
   refine ⟨fun _ h => h.selR (F := [_, _, _, _, _, _]) (F' := [_]) [2] (by decide) rfl, ?_⟩
   refine cd_rows (R1 := (⟨23, 1, (some ⟨g_28, 0, none⟩), 1, 1, [Value.slice ((rdG l_3 i).A) ((rdG l_3 i).root.length) ((rdG l_3 i).c)], false⟩ :: ⟨3, 1, (some ⟨g_26, 0, none⟩), 1, 1, ints .i64 ([(rdG l_3 i).times]), false⟩ :: ⟨73, 2, (some ⟨g_10, 0, none⟩), 1, 1, [.slice ((rdG l_3 i).A) ((rdG l_3 i).root.length) ((rdG l_3 i).c), .int .i64 ((rdG l_3 i).times)], false⟩ :: ⟨73, 2, A_1, l_3.length, c_2, rgs l_3, false⟩ :: ⟨3, 1, A_31, (n2 + 1), c_32, ints .i64 (ts ++ ([(rdG l_3 i).times])), false⟩ :: ⟨23, 1, A_29, (n1 + 1), c_30, vals ++ ([Value.slice ((rdG l_3 i).A) ((rdG l_3 i).root.length) ((rdG l_3 i).c)]), false⟩ :: Rs_4)) rfl ?_
   refine cd_as (v := .slice A_31 (n2 + 1) c_32) rfl ?_
   refine cd_y 10 rfl (by kernel_rfl) rfl (y_assign rfl) ?_
   refine cd_y 11 rfl (by kernel_rfl) rfl (y_assign rfl) ?_
   refine cd_nil (by kernel_rfl) ?_
   refine w_reg <| wA rfl rfl rfl (by omega) <| wm rfl rfl <| wr_nil ?_
   exact ⟨i + 1, A_29, n1 + 1, c_30, vals ++ ([Value.slice ((rdG l_3 i).A) ((rdG l_3 i).root.length) ((rdG l_3 i).c)]), (ls ++ [(rdG l_3 i).root]), A_31, n2 + 1, c_32, ts ++ ([(rdG l_3 i).times]), ⟨(by omega), (by omega), (by rw [List.length_append, hn1]; rfl), (by rw [List.length_append, hn2]; rfl), (hsl.push rfl (hrg_5 _ (rdG_mem hi0 (by omega))).2), (by rw [rt_step RC.root hi0 (by omega), ← hls]), (by rw [rt_step RC.times hi0 (by omega), ← hts])⟩, (by omega), (sc rfl (sc rfl (sc rfl (sc rfl (sc rfl Sub.nil))))), fun _ h => h.selR (F := [_, _, _, _, _, _]) (F' := [_, _, _]) [3, 4, 5] (by decide) rfl⟩
 ·
  refine w_exit <| wq <| wm rfl rfl <| wm rfl rfl <| wg rfl rfl <| wg rfl rfl <| wr_nil <| w_retR (R1 := (⟨23, 1, A1, n1, c1, vals, false⟩ :: ⟨3, 1, A2, n2, c2, ints .i64 ts, false⟩ :: Rs_4)) (fun _ h => h.selR (F := [_, _, _]) (F' := [_, _]) [2, 1] (by decide) rfl) ?_
  refine ⟨_, _, rfl, rfl, ?_⟩
  have hrd := rt_done hlr_6 (show (l_3.length : Int) ≤ i by omega)
  obtain rfl : ls = (ringS ws).map Prod.fst := hls.trans hrd.1
  obtain rfl : ts = (ringS ws).map Prod.snd := hts.trans hrd.2
  subst hn1; subst hn2
  exact ⟨_, _, _, _, vals, _, rfl, hsl, rfl⟩

set_option maxRecDepth 100000 in
theorem equalB_ct {w : World} {A_u : Option Addr} {n_u c_u : Nat} {u : List Int} {A_t : Option Addr} {n_t c_t : Nat} {t : List Int} (h_u : Rd w A_u n_u c_u 1 (ints .u8 u)) (h_t : Rd w A_t n_t c_t 1 (ints .u8 t)) (bh_u : ByteL u) (bh_t : ByteL t) :
  Ct Tryz.prog 22 #[.slice A_u n_u c_u, .slice A_t n_t c_t] w.heap.size w [] (fun v R' => v = .bool (decide (u = t))) := by
 obtain rfl := h_u.lenI
 obtain rfl := h_t.lenI
 refine fn1 Tryz.func22 rfl rfl rfl ?_
 have m_u := h_u.max
 have m_t := h_t.max
 refine wq <| wg rfl rfl <| wr_nil <| wq <| wm rfl rfl <| wr_y rfl (y_toStr underlying23 underlying5 underlying9 rfl (h_u.c _)) <| wm rfl rfl <| wr_y rfl (y_toStr underlying23 underlying5 underlying9 rfl (h_t.c _)) <| wr_y rfl (y_eqL rfl rfl bh_u bh_t) <| wg rfl rfl <| wr_nil <| w_ret ?_
 refine ⟨_, rfl, ?_⟩
 rfl

set_option maxRecDepth 100000 in
set_option maxHeartbeats 600000 in
theorem rows9_ct {w : World} {A_a : Option Addr} {n_a c_a : Nat} {vals_a : List Value} {a : List (List Int)} {A_b : Option Addr} {n_b c_b : Nat} {vals_b : List Value} {b : List (List Int)} (h_a : Rd w A_a n_a c_a 1 vals_a) (s_a : SlW .u8 w vals_a a) (h_b : Rd w A_b n_b c_b 1 vals_b) (s_b : SlW .u8 w vals_b b) (hN : a.length ≤ 1000000) :
  Ct Tryz.prog 9 #[.slice A_a n_a c_a, .slice A_b n_b c_b] w.heap.size w [] (fun v R' => v = .bool (decide (a = b))) := by
 obtain rfl : n_a = a.length := by have := h_a.len; have := s_a.1; omega
 obtain rfl : n_b = b.length := by have := h_b.len; have := s_b.1; omega
 refine fn1 Tryz.func9 rfl rfl rfl ?_
 have m_a := h_a.max
 have m_b := h_b.max
 refine wq <| wg rfl rfl <| wr_nil <| w_seq <| wq <| wm rfl rfl <| wr_y rfl (y_len underlying22 rfl) <| wm rfl rfl <| wr_y rfl (y_len underlying22 rfl) <| wr_y rfl (y_ne rfl rfl) <| wr_nil <| w_if rfl (fun hc1 => ?_) (fun hc1 => ?_)
 ·
  refine wq <| wg rfl rfl <| wr_nil <| w_ret ?_
  refine ⟨_, rfl, ?_⟩
  exact congrArg Value.bool (decide_eq_false (fun e => by rw [e] at hc1; exact hc1 rfl)).symm
 ·
  refine w_skip <| w_seq <| wq <| wg rfl rfl <| wr_nil <| w_block ?_
  refine w_loop1 (fun (k : Int) => [(0, .slice A_a a.length c_a), (1, .slice A_b b.length c_b), (5, .int .i64 k)]) (fun (k : Int) => []) (fun (k : Int) => (0 ≤ k) ∧ (k ≤ a.length) ∧ (a.take k.toNat = b.take k.toNat)) (fun (k : Int) => (a.length - k).toNat) ?_ ?_
  ·
   exact ⟨0, ⟨(by omega), (by omega), (rfl)⟩, (sc rfl (sc rfl (sc rfl Sub.nil))), fun _ h => h⟩
  intro k ⟨hk0, hk1, hq⟩
  refine w_seq <| wq <| wm rfl rfl <| wm rfl rfl <| wr_y rfl (y_len underlying22 rfl) <| wL rfl rfl rfl <| wr_nil <| w_if rfl (fun hc2 => ?_) (fun hc2 => ?_)
  ·
   refine w_skip <| w_seq <| w_block <| w_seq <| w_regd mixed <| wd_y 0 rfl (by kernel_rfl) rfl (y_move rfl) <| wd_y 1 rfl (by kernel_rfl) rfl (y_move rfl) <| wd_y 2 rfl (by kernel_rfl) rfl (y_index1 underlying22 sz23 rfl rfl (h_a.c _) (by omega) (by omega)) ?_
   refine s_a.elim (i := k) (by omega) (by omega) (fun A_1 c_2 hv_3 hr_4 hb_5 mhr_4 => ?_)
   refine wd_y 3 rfl (by kernel_rfl) rfl (y_ld underlying23 rfl rfl rfl (h_a.c _) hv_3) <| wd_y 4 rfl (by kernel_rfl) rfl (y_toStr underlying23 underlying5 underlying9 rfl (hr_4.c _)) <| wd_y 5 rfl (by kernel_rfl) rfl (y_move rfl) <| wd_y 6 rfl (by kernel_rfl) rfl (y_move rfl) <| wd_y 7 rfl (by kernel_rfl) rfl (y_index1 underlying22 sz23 rfl rfl (h_b.c _) (by omega) (by omega)) ?_
   refine s_b.elim (i := k) (by omega) (by omega) (fun A_6 c_7 hv_8 hr_9 hb_10 mhr_9 => ?_)
   refine wd_y 8 rfl (by kernel_rfl) rfl (y_ld underlying23 rfl rfl rfl (h_b.c _) hv_8) <| wd_y 9 rfl (by kernel_rfl) rfl (y_toStr underlying23 underlying5 underlying9 rfl (hr_9.c _)) <| wd_y 10 rfl (by kernel_rfl) rfl (y_neL rfl rfl (byteL_wf hb_5) (byteL_wf hb_10)) ?_
   refine wd_nil (by kernel_rfl) <| w_if rfl (fun hc3 => ?_) (fun hc3 => ?_)
   ·
    refine wq <| wg rfl rfl <| wr_nil <| w_ret ?_
    refine ⟨_, rfl, ?_⟩
    exact congrArg Value.bool (decide_eq_false (fun e => by subst e; exact hc3 rfl)).symm
   ·
    refine w_skip <| w_reg <| wm rfl rfl <| wA rfl rfl rfl (by omega) <| wg rfl rfl <| wr_nil ?_
    exact ⟨k + 1, ⟨(by omega), (by omega), (by rw [take_succ_rdl2 hk0 (by omega), take_succ_rdl2 hk0 (by omega), hq]; exact congrArg (fun z => List.take k.toNat b ++ [z]) (Decidable.not_not.1 (by assumption)))⟩, (by omega), (sc rfl (sc rfl (sc rfl Sub.nil))), fun _ h => h⟩
  ·
   refine w_exit <| wq <| wg rfl rfl <| wr_nil <| w_ret ?_
   refine ⟨_, rfl, ?_⟩
   exact congrArg Value.bool (decide_eq_true (by rw [List.take_of_length_le (by omega), List.take_of_length_le (by omega)] at hq; exact hq)).symm

end Go.Proofs.YtdfcnalkdlifiaaGreat

/-! ## F2 -/
namespace Go.Proofs.YtdfcnalkdlifiaaGreat
open Go Go.Eng Go.Pure
open Tryz
set_option linter.unusedVariables false
set_option maxRecDepth 100000 in
theorem least5_ct {w : World} {A_u : Option Addr} {n_u c_u : Nat} {u : List Int} (h_u : Rd w A_u n_u c_u 1 (ints .u8 u)) (bh_u : ByteL u) (hne : 0 < u.length) (hlu : u.length ≤ 1000000) :
  Ct Tryz.prog 75 #[.slice A_u n_u c_u] w.heap.size w [] (fun v R' => v = .int .i64 (lp u)) := by
 obtain rfl := h_u.lenI
 refine fn1 Tryz.func75 rfl rfl rfl ?_
 have m_u := h_u.max
 refine wq <| wg rfl rfl <| wr_nil <| w_seq <| wq <| wg rfl rfl <| wr_nil <| w_block ?_
 refine w_loop1 (fun (p : Int) => [(0, .slice A_u u.length c_u), (3, .int .i64 p)]) (fun (p : Int) => []) (fun (p : Int) => (1 ≤ p) ∧ (p ≤ u.length + 1) ∧ (lp u = lpF u ((u.length : Int) + 1 - p).toNat p)) (fun (p : Int) => ((u.length : Int) + 1 - p).toNat) ?_ ?_
 ·
  exact ⟨1, ⟨(by omega), (by omega), (by unfold lp; congr 1; omega)⟩, (sc rfl (sc rfl Sub.nil)), fun _ h => h⟩
 intro p ⟨hp1, hp2, hl⟩
 refine w_seq <| wq <| wm rfl rfl <| wm rfl rfl <| wr_y rfl (y_len underlying23 rfl) <| wr_y rfl (y_le rfl rfl) <| wr_nil <| w_if rfl (fun hc1 => ?_) (fun hc1 => ?_)
 ·
  refine w_skip <| w_seq <| w_block <| w_seq <| w_regd mixed <| wd_y 0 rfl (by kernel_rfl) rfl (y_move rfl) <| wd_y 1 rfl (by kernel_rfl) rfl (y_move rfl) <| wd_y 2 rfl (by kernel_rfl) rfl (y_sliceFrom underlying23 sz5 rfl rfl (by omega) (by omega)) <| wd_y 3 rfl (by kernel_rfl) rfl (y_toStr underlying23 underlying5 underlying9 rfl (RdC.fromI (h_u.c _) (by omega))) <| wd_y 4 rfl (by kernel_rfl) rfl (y_move rfl) <| wd_y 5 rfl (by kernel_rfl) rfl (y_move rfl) <| wd_y 6 rfl (by kernel_rfl) rfl (y_len underlying23 rfl) <| wd_y 7 rfl (by kernel_rfl) rfl (y_move rfl) <| wd_y 8 rfl (by kernel_rfl) rfl (y_subI rfl rfl (by omega)) <| wd_y 9 rfl (by kernel_rfl) rfl (y_sliceTo underlying23 sz5 rfl rfl (h_u.c _) (by omega) (by omega)) ?_
  refine wd_y 10 rfl (by kernel_rfl) rfl (y_toStr underlying23 underlying5 underlying9 rfl (RdC.toI (h_u.c _) (by omega))) <| wd_y 11 rfl (by kernel_rfl) rfl (y_eqL rfl rfl (ByteL.drop bh_u _) (ByteL.take bh_u _)) <| wd_nil (by kernel_rfl) <| w_if rfl (fun hc2 => ?_) (fun hc2 => ?_)
  ·
   refine wq <| wm rfl rfl <| wg rfl rfl <| wr_nil <| w_ret ?_
   refine ⟨_, rfl, ?_⟩
   exact congrArg (Value.int .i64) (by rw [hl, lpF_hit (by omega) (by assumption)])
  ·
   refine w_skip <| w_reg <| wm rfl rfl <| wA rfl rfl rfl (by omega) <| wg rfl rfl <| wr_nil ?_
   exact ⟨p + 1, ⟨(by omega), (by omega), (by rw [hl, lpF_go (by omega) (by assumption)]; congr 1; omega)⟩, (by omega), (sc rfl (sc rfl Sub.nil)), fun _ h => h⟩
 ·
  refine w_exit <| wq <| wg rfl rfl <| wr_nil <| w_ret ?_
  refine ⟨_, rfl, ?_⟩
  have := lp_range hne
  have e0 : ((u.length : Int) + 1 - p).toNat = 0 := by omega
  rw [e0] at hl
  unfold lpF at hl
  omega

set_option maxRecDepth 100000 in
theorem root5_ct {w : World} {A_u : Option Addr} {n_u c_u : Nat} {u : List Int} (h_u : Rd w A_u n_u c_u 1 (ints .u8 u)) (bh_u : ByteL u) (hne : 0 < u.length) (hlu : u.length ≤ 1000000) :
  Ct Tryz.prog 46 #[.slice A_u n_u c_u] w.heap.size w [] (fun v R' => v = .tuple #[.slice A_u (rl u).toNat c_u, .int .i64 ((u.length : Int) / rl u)]) := by
 obtain rfl := h_u.lenI
 refine fn2 Tryz.func46 rfl rfl rfl ?_
 have m_u := h_u.max
 have hlp := lp_range hne
 refine wq <| wg rfl rfl <| wg rfl rfl <| wr_nil <| wq <| wm rfl rfl <| wr_a rfl (a_callF en75 rfl (Ct.quiet (fun w hw => least5_ct ((h_u.c _) w hw) (by first | assumption | omega | decide) (by first | assumption | omega | decide) (by first | assumption | omega | decide)))) ?_
 rintro _ _ ⟨rfl, rfl⟩
 refine wg rfl rfl <| wr_nil <| w_seq <| wq <| wm rfl rfl <| wr_y rfl (y_eq rfl rfl) <| wr_nil <| w_if rfl (fun hc1 => ?_) (fun hc1 => ?_)
 ·
  refine wq <| wg rfl rfl <| wg rfl rfl <| wr_nil <| w_ret ?_
  refine ⟨_, _, rfl, rfl, ?_⟩
  omega
 ·
  refine w_skip <| w_seq <| wq <| wm rfl rfl <| wr_y rfl (y_len underlying23 rfl) <| wm rfl rfl <| wr_y rfl (y_rem rfl rfl (by omega) (by omega)) <| wr_y rfl (y_ne rfl rfl) <| wr_nil <| w_if rfl (fun hc2 => ?_) (fun hc2 => ?_)
  ·
   refine w_reg <| wm rfl rfl <| wr_y rfl (y_len underlying23 rfl) <| wg rfl rfl <| wr_nil <| w_seq <| w_regd mixed <| wd_y 0 rfl (by kernel_rfl) rfl (y_move rfl) <| wd_y 1 rfl (by kernel_rfl) rfl (y_move rfl) <| wd_y 2 rfl (by kernel_rfl) rfl (y_sliceTo underlying23 sz5 rfl rfl (h_u.c _) (by omega) (by omega)) <| wd_y 3 rfl (by kernel_rfl) rfl (y_move rfl) <| wd_y 4 rfl (by kernel_rfl) rfl (y_len underlying23 rfl) <| wd_y 5 rfl (by kernel_rfl) rfl (y_move rfl) <| wd_y 6 rfl (by kernel_rfl) rfl (y_quoI rfl rfl (by omega) (by omega) (by omega)) <| wd_y 7 rfl (by kernel_rfl) rfl (y_assign rfl) ?_
   refine wd_y 8 rfl (by kernel_rfl) rfl (y_assign rfl) <| wd_nil (by kernel_rfl) <| w_ret ?_
   refine ⟨_, _, rfl, rfl, ?_⟩
   have e : rl u = u.length := by unfold rl; rw [if_pos (by assumption)]
   rw [e]
  ·
   refine w_skip <| w_seq <| w_regd mixed <| wd_y 0 rfl (by kernel_rfl) rfl (y_move rfl) <| wd_y 1 rfl (by kernel_rfl) rfl (y_move rfl) <| wd_y 2 rfl (by kernel_rfl) rfl (y_sliceTo underlying23 sz5 rfl rfl (h_u.c _) (by omega) (by omega)) <| wd_y 3 rfl (by kernel_rfl) rfl (y_move rfl) <| wd_y 4 rfl (by kernel_rfl) rfl (y_len underlying23 rfl) <| wd_y 5 rfl (by kernel_rfl) rfl (y_move rfl) <| wd_y 6 rfl (by kernel_rfl) rfl (y_quoI rfl rfl (by omega) (by omega) (by omega)) <| wd_y 7 rfl (by kernel_rfl) rfl (y_assign rfl) <| wd_y 8 rfl (by kernel_rfl) rfl (y_assign rfl) <| wd_nil (by kernel_rfl) <| w_ret ?_
   refine ⟨_, _, rfl, rfl, ?_⟩
   have e : rl u = lp u := by unfold rl; rw [if_neg (by assumption)]
   rw [e]

end Go.Proofs.YtdfcnalkdlifiaaGreat

/-! ## N5 -/
namespace Go.Proofs.YtdfcnalkdlifiaaGreat
open Go Go.Eng Go.Pure
open Tryz
set_option linter.unusedVariables false
theorem kcmp_neg {a b : RT} : kcmp a b < 0 ↔ cmpL a.1 b.1 < 0 ∨ cmpL a.1 b.1 = 0 ∧ a.2 < b.2 := by
 unfold kcmp
 have h2 : cmpI a.2 b.2 < 0 ↔ a.2 < b.2 := by unfold cmpI; split <;> (try split) <;> omega
 split
 ·omega
 ·rw [h2]; omega
def kw (c : List Int) : RT := (rootW c, timesW c)
structure CI (ws : List (List Int)) (ls : List (List Int)) : Prop where
 perm : (ls.map kw).Perm (ringsOf ws)
 sorted : ls.Pairwise fun a b => kcmp (kw a) (kw b) ≤ 0
theorem CI.nil : CI [] [] := ⟨.refl _, .nil⟩
theorem CI.skip {ws ls : List (List Int)} {w : List Int} (h : CI ws ls) (hw : w.length = 0) : CI (ws ++ [w]) ls := ⟨by
 have e : ringsOf [w] = [] := by unfold ringsOf; simp [hw]
 rw [ringsOf_append, e, List.append_nil]
 exact h.perm, h.sorted⟩
theorem CI.put {ws ls : List (List Int)} {w : List Int} {j : Int} (h : CI ws ls) (hw : 0 < w.length) (h0 : 0 ≤ j) (h1 : j ≤ ls.length) (hup : ∀ q : Int, j ≤ q → q < ls.length → kcmp (kw (lw w)) (kw (rdl ls q)) < 0) (hlo : ¬ (0 < j ∧ kcmp (kw (lw w)) (kw (rdl ls (j - 1))) < 0)) : CI (ws ++ [w]) (ls.take j.toNat ++ [lw w] ++ ls.drop j.toNat) := by
 refine ⟨?_, ?_⟩
 ·rw [ringsOf_append]
  have e : ringsOf [w] = [ringOf w] := by unfold ringsOf; simp [hw]
  rw [e, List.map_append, List.map_append]
  refine List.Perm.trans ?_ (List.Perm.append_right [ringOf w] h.perm)
  rw [List.append_assoc]
  refine (List.Perm.append_left _ List.perm_append_comm).trans ?_
  rw [← List.append_assoc, ← List.map_append, List.take_append_drop]
  exact .refl _
 ·have hs := h.sorted
  have hs2 := hs
  rw [← List.take_append_drop j.toNat ls, List.pairwise_append] at hs2
  obtain ⟨s1, s2, s3⟩ := hs2
  have hdn : ∀ b ∈ ls.drop j.toNat, kcmp (kw (lw w)) (kw b) < 0 := fun b hb => by
   obtain ⟨k, hk, e⟩ := List.mem_iff_getElem.1 hb
   rw [List.length_drop] at hk
   have := hup (j + k) (by omega) (by omega)
   have e2 : rdl ls (j + k) = b := by
    rw [← e, List.getElem_drop]
    unfold rdl
    rw [show (j + (k : Int)).toNat = j.toNat + k by omega, List.getD_eq_getElem?_getD, List.getElem?_eq_getElem (by omega)]
    rfl
   rwa [e2] at this
  have hlow : ∀ a ∈ ls.take j.toNat, kcmp (kw a) (kw (lw w)) ≤ 0 := fun a ha => by
   obtain ⟨k, hk, e⟩ := List.mem_iff_getElem.1 ha
   rw [List.length_take] at hk
   have hj : 0 < j := by omega
   have hl : kcmp (kw (rdl ls (j - 1))) (kw (lw w)) ≤ 0 := by
    rw [kcmp_anti (kw (lw w))]
    have := fun c => hlo ⟨hj, c⟩
    omega
   have e2 : rdl ls (j - 1) = ls[(j - 1).toNat]'(by omega) := by
    unfold rdl
    rw [List.getD_eq_getElem?_getD, List.getElem?_eq_getElem (by omega)]
    rfl
   rw [List.getElem_take] at e
   rcases Nat.lt_or_ge k (j - 1).toNat with g | g
   ·have := List.pairwise_iff_getElem.1 hs k (j - 1).toNat (by omega) (by omega) g
    rw [e, ← e2] at this
    exact kcmp_le _ _ _ this hl
   ·obtain rfl : k = (j - 1).toNat := by omega
    rw [← e, ← e2]
    exact hl
  rw [List.append_assoc, List.pairwise_append]
  refine ⟨s1, ?_, ?_⟩
  ·rw [List.singleton_append, List.pairwise_cons]
   exact ⟨fun b hb => by have := hdn b hb; omega, s2⟩
  ·intro a ha b hb
   rw [List.singleton_append, List.mem_cons] at hb
   rcases hb with rfl | hb
   ·exact hlow a ha
   ·exact s3 a ha b hb
theorem CI.done {ws ls : List (List Int)} (h : CI ws ls) (hp : ∀ c ∈ ls, 0 < c.length) : ls = canon ws := by
 have : ls.map kw = ringS ws := ringS_one h.perm (List.pairwise_map.2 h.sorted)
 unfold canon
 rw [← this, List.map_map]
 conv => lhs; rw [← List.map_id ls]
 refine List.map_congr_left fun c hc => ?_
 exact (unring_root (hp c hc)).symm
set_option maxRecDepth 100000 in
theorem less9_ct {w : World} {A_u : Option Addr} {n_u c_u : Nat} {u : List Int} {A_t : Option Addr} {n_t c_t : Nat} {t : List Int} (h_u : Rd w A_u n_u c_u 1 (ints .u8 u)) (h_t : Rd w A_t n_t c_t 1 (ints .u8 t)) (bh_u : ByteL u) (bh_t : ByteL t) (hu : 0 < u.length ∧ u.length ≤ 1000000) (ht : 0 < t.length ∧ t.length ≤ 1000000) :
  Ct Tryz.prog 25 #[.slice A_u n_u c_u, .slice A_t n_t c_t] w.heap.size w [] (fun v R' => v = .bool (decide (kcmp (kw u) (kw t) < 0))) := by
 obtain rfl := h_u.lenI
 obtain rfl := h_t.lenI
 refine fn1 Tryz.func25 rfl rfl rfl ?_
 have m_u := h_u.max
 have m_t := h_t.max
 refine wq <| wg rfl rfl <| wr_nil <| wq <| wm rfl rfl <| wr_a rfl (a_callF en46 rfl (Ct.quiet (fun w hw => root5_ct ((h_u.c _) w hw) (by first | assumption | omega | decide) hu.1 hu.2))) ?_
 rintro _ _ ⟨rfl, rfl⟩
 have hr0 := rl_range (u := u) (by omega)
 refine wm rfl rfl <| wX rfl rfl rfl <| wX rfl rfl rfl <| wg rfl rfl <| wg rfl rfl <| wr_nil <| wq <| wm rfl rfl <| wr_a rfl (a_callF en46 rfl (Ct.quiet (fun w hw => root5_ct ((h_t.c _) w hw) bh_t ht.1 ht.2))) ?_
 rintro _ _ ⟨rfl, rfl⟩
 have hr0 := rl_range (u := t) (by omega)
 refine wm rfl rfl <| wX rfl rfl rfl <| wX rfl rfl rfl <| wg rfl rfl <| wg rfl rfl <| wr_nil <| wq <| wm rfl rfl <| wm rfl rfl <| wr_a rfl (a_callF en47 rfl (Ct.quiet (fun w hw => words4_ct ((RdC.toI (h_u.c _) (by omega)) w hw) ((RdC.toI (h_t.c _) (by omega)) w hw)))) ?_
 rintro _ _ ⟨rfl, rfl⟩
 refine wg rfl rfl <| wr_nil <| wq <| wm rfl rfl <| wL rfl rfl rfl <| wm rfl rfl <| wr_mid 8 [(33, .bool (decide (((cmpL ((u).take (rl u).toNat) ((t).take (rl t).toNat)) < 0) ∨ (((cmpL ((u).take (rl u).toNat) ((t).take (rl t).toNat)) = 0) ∧ ((((u).length : Int) / rl u) < (((t).length : Int) / rl t))))))] [] ?_ ?_
 ·
  refine wr_case 25 rfl (fun hc1 => ?_) (fun hc1 => ?_)
  ·
   refine wr_no rfl rfl rfl rfl <| wr_no rfl rfl rfl rfl <| wr_no rfl rfl rfl rfl <| wr_nou rfl rfl rfl <| wr_nou rfl rfl rfl <| wr_nou rfl rfl rfl <| wr_no rfl rfl rfl rfl <| wr_y rfl (y_pickT rfl rfl) <| wr_nil ?_
   exact ⟨(Sub.to rfl (mb_t (by first | omega | exact ⟨fun h => ⟨(by assumption), h⟩, fun h => h.2⟩ | exact .inl (by assumption) | exact ⟨.inr, fun h => h.resolve_left (by assumption)⟩ | exact ⟨fun h => h.resolve_left (by assumption), .inr⟩ | simp [*])) Sub.nil), fun _ h => h⟩
  ·
   refine wr_yes rfl rfl <| wm rfl rfl <| wr_yes rfl rfl <| wr_y rfl (y_eq rfl rfl) <| wr_yes rfl rfl <| wm rfl rfl <| wr_mid 4 [(25, .bool false), (32, .bool (decide (((cmpL ((u).take (rl u).toNat) ((t).take (rl t).toNat)) = 0) ∧ ((((u).length : Int) / rl u) < (((t).length : Int) / rl t)))))] [] ?_ ?_
   ·
    refine wr_case 28 rfl (fun hc2 => ?_) (fun hc2 => ?_)
    ·
     refine wr_yes rfl rfl <| wm rfl rfl <| wr_yes rfl rfl <| wm rfl rfl <| wr_yes rfl rfl <| wL rfl rfl rfl <| wr_yes rfl rfl <| wr_y rfl (y_pickT rfl rfl) <| wr_nil ?_
     exact ⟨(sc rfl (Sub.to rfl (mb (by first | omega | exact ⟨fun h => ⟨(by assumption), h⟩, fun h => h.2⟩ | exact .inl (by assumption) | exact ⟨.inr, fun h => h.resolve_left (by assumption)⟩ | exact ⟨fun h => h.resolve_left (by assumption), .inr⟩ | simp [*])) Sub.nil)), fun _ h => h⟩
    ·
     refine wr_no rfl rfl rfl rfl <| wr_no rfl rfl rfl rfl <| wr_no rfl rfl rfl rfl <| wr_yes rfl rfl <| wr_y rfl (y_pickF rfl rfl) <| wr_nil ?_
     exact ⟨(sc rfl (Sub.to rfl (mb_f (by first | omega | exact ⟨fun h => ⟨(by assumption), h⟩, fun h => h.2⟩ | exact .inl (by assumption) | exact ⟨.inr, fun h => h.resolve_left (by assumption)⟩ | exact ⟨fun h => h.resolve_left (by assumption), .inr⟩ | simp [*])) Sub.nil)), fun _ h => h⟩
   refine wr_y rfl (y_pickF rfl rfl) <| wr_nil ?_
   exact ⟨(Sub.to rfl (mb (by first | omega | exact ⟨fun h => ⟨(by assumption), h⟩, fun h => h.2⟩ | exact .inl (by assumption) | exact ⟨.inr, fun h => h.resolve_left (by assumption)⟩ | exact ⟨fun h => h.resolve_left (by assumption), .inr⟩ | simp [*])) Sub.nil), fun _ h => h⟩
 refine wg rfl rfl <| wr_nil <| w_ret ?_
 refine ⟨_, rfl, ?_⟩
 exact congrArg Value.bool (decide_eq_decide.2 (kcmp_neg (a := kw u) (b := kw t)).symm)

theorem ins_ok {ls : List (List Int)} {w : List Int} {j : Nat} (h : ∀ c ∈ ls, ByteL c ∧ 0 < c.length ∧ c.length ≤ 8000) (hb : ByteL w) (hw : 0 < w.length ∧ w.length ≤ 8000) : ∀ c ∈ ls.take j ++ [w] ++ ls.drop j, ByteL c ∧ 0 < c.length ∧ c.length ≤ 8000 := fun c hc => by
 rcases List.mem_append.1 hc with hc | hc
 ·rcases List.mem_append.1 hc with hc | hc
  ·exact h c (List.mem_of_mem_take hc)
  ·obtain rfl := List.mem_singleton.1 hc
   exact ⟨hb, hw⟩
 ·exact h c (List.mem_of_mem_drop hc)
set_option maxRecDepth 100000 in
set_option maxHeartbeats 2000000 in
theorem canon9_ct {w : World} {A_ws : Option Addr} {n_ws c_ws : Nat} {vals_ws : List Value} {ws : List (List Int)} (h_ws : Rd w A_ws n_ws c_ws 1 vals_ws) (s_ws : SlW .u8 w vals_ws ws) (hN : (∀ w ∈ ws, w.length ≤ 8000) ∧ ws.length ≤ 100000) :
  Ct Tryz.prog 10 #[.slice A_ws n_ws c_ws] w.heap.size w [] (fun v R' => ∃ (A : Option Addr) (c : Nat) (vals : List Value) (Rs : List Row), v = .slice A vals.length c ∧ SlR .u8 Rs vals (canon ws) ∧ R' = ⟨23, 1, A, vals.length, c, vals, false⟩ :: Rs) := by
 obtain rfl : n_ws = ws.length := by have := h_ws.len; have := s_ws.1; omega
 refine fn1 Tryz.func10 rfl rfl rfl ?_
 have m_ws := h_ws.max
 have hob := s_ws.okB
 refine wq <| wg rfl rfl <| wr_nil <| wq <| wr_sub (R1 := (⟨23, 1, none, 0, 0, [], false⟩ :: [])) (Sub.refl _) (fun _ h => h.nil 23 1) <| wg rfl rfl <| wr_nil <| w_seq <| wq <| wg rfl rfl <| wr_nil <| w_block ?_
 refine w_loop7 (fun (i : Int) (A1 : Option Addr) (n1 : Nat) (c1 : Nat) (vals : List Value) (ls : List (List Int)) (Rs : List Row) => [(0, .slice A_ws ws.length c_ws), (3, .slice A1 n1 c1), (4, .int .i64 i)]) (fun (i : Int) (A1 : Option Addr) (n1 : Nat) (c1 : Nat) (vals : List Value) (ls : List (List Int)) (Rs : List Row) => (⟨23, 1, A1, n1, c1, vals, false⟩ :: Rs)) (fun (i : Int) (A1 : Option Addr) (n1 : Nat) (c1 : Nat) (vals : List Value) (ls : List (List Int)) (Rs : List Row) => (0 ≤ i) ∧ (i ≤ ws.length) ∧ (n1 = vals.length) ∧ (SlR .u8 Rs vals ls) ∧ (∀ c ∈ ls, ByteL c ∧ 0 < c.length ∧ c.length ≤ 8000) ∧ (CI (ws.take i.toNat) ls)) (fun (i : Int) (A1 : Option Addr) (n1 : Nat) (c1 : Nat) (vals : List Value) (ls : List (List Int)) (Rs : List Row) => (ws.length - i).toNat) ?_ ?_
 ·
  exact ⟨0, none, 0, 0, [], [], [], ⟨(by omega), (by omega), (rfl), (SlR.nilR _ _), (fun c hc => by cases hc), (CI.nil)⟩, (sc rfl (sc rfl (sc rfl Sub.nil))), fun _ h => h⟩
 intro i A1 n1 c1 vals ls Rs ⟨hi0, hi1, hn1, hsl, hok, hci⟩
 have hsn := hsl.1
 have hfew : ls.length ≤ i.toNat := by have h1 := hci.perm.length_eq; rw [List.length_map] at h1; have h2 := ringsOf_few (ws.take i.toNat); rw [List.length_take] at h2; omega
 have hwl : 0 ≤ i → i < ws.length → (rdl ws i).length ≤ 8000 := fun h h' => hN.1 _ (rdl_mem2 h h')
 refine w_seq <| wq <| wm rfl rfl <| wm rfl rfl <| wr_y rfl (y_len underlying22 rfl) <| wL rfl rfl rfl <| wr_nil <| w_if rfl (fun hc1 => ?_) (fun hc1 => ?_)
 ·
  have hwl2 := hwl hi0 (by omega)
  refine w_skip <| w_seq <| w_block <| w_seq <| wq <| wm rfl rfl <| wm rfl rfl <| wr_y rfl (y_index1 underlying22 sz23 rfl rfl (h_ws.c _) (by omega) (by omega)) ?_
  refine s_ws.elim (i := i) (by omega) (by omega) (fun A_1 c_2 hv_3 hr_4 hb_5 mhr_4 => ?_)
  refine wr_y rfl (y_ld underlying23 rfl rfl rfl (h_ws.c _) hv_3) <| wr_y rfl (y_len underlying23 rfl) <| wr_y rfl (y_eq rfl rfl) <| wr_nil <| w_if rfl (fun hc2 => ?_) (fun hc2 => ?_)
  ·
   refine w_exit <| w_reg <| wm rfl rfl <| wA rfl rfl rfl (by omega) <| wg rfl rfl <| wr_nil ?_
   exact ⟨i + 1, A1, n1, c1, vals, ls, Rs, ⟨(by omega), (by omega), (hn1), (hsl), (hok), (by rw [take_succ_rdl2 hi0 (by omega)]; exact hci.skip (by omega))⟩, (by omega), (sc rfl (sc rfl (sc rfl Sub.nil))), fun _ h => h⟩
  ·
   refine w_skip <| wq <| wm rfl rfl <| wm rfl rfl <| wr_y rfl (y_index1 underlying22 sz23 rfl rfl (h_ws.c _) (by omega) (by omega)) ?_
   refine s_ws.elim (i := i) (by omega) (by omega) (fun A_6 c_7 hv_8 hr_9 hb_10 mhr_9 => ?_)
   refine wr_y rfl (y_ld underlying23 rfl rfl rfl (h_ws.c _) hv_8) <| wr_a rfl (a_callF en24 rfl (Ct.fresh (fun w hw => of6_ct ((hr_9.c _) w hw) (by omega)))) ?_
   rintro _ _ ⟨_, rfl, A_11, c_12, rfl, rfl⟩
   refine wg rfl rfl <| wr_nil <| wq <| wm rfl rfl <| wr_y rfl (y_len underlying22 rfl) <| wg rfl rfl <| wr_nil <| w_seq <| w_block ?_
   refine w_loop1 (fun (j : Int) => [(0, .slice A_ws ws.length c_ws), (3, .slice A1 n1 c1), (4, .int .i64 i), (5, .slice A_11 ((lw (rdl ws i)).length) c_12), (6, .int .i64 j)]) (fun (j : Int) => (⟨5, 1, A_11, (lw (rdl ws i)).length, c_12, ints .u8 (lw (rdl ws i)), false⟩ :: ⟨23, 1, A1, n1, c1, vals, false⟩ :: Rs)) (fun (j : Int) => (0 ≤ j) ∧ (j ≤ n1) ∧ (∀ q : Int, j ≤ q → q < ls.length → kcmp (kw (lw (rdl ws i))) (kw (rdl ls q)) < 0)) (fun (j : Int) => j.toNat) ?_ ?_
   ·
    exact ⟨((n1 : Nat) : Int), ⟨(by omega), (by omega), (fun q h1 h2 => by omega)⟩, (sc rfl (sc rfl (sc rfl (sc rfl (sc rfl Sub.nil))))), fun _ h => h⟩
   intro j ⟨hj0, hj1, hup⟩
   have hjm : 0 < j → ByteL (rdl ls (j - 1)) ∧ 0 < (rdl ls (j - 1)).length ∧ (rdl ls (j - 1)).length ≤ 8000 := fun h => hok _ (rdl_mem2 (by omega) (by omega))
   refine w_seq <| wq <| wm rfl rfl <| wr_y rfl (y_gt rfl rfl) <| wm rfl rfl <| wr_mid 8 [(0, .slice A_ws ws.length c_ws), (3, .slice A1 n1 c1), (4, .int .i64 i), (5, .slice A_11 ((lw (rdl ws i)).length) c_12), (6, .int .i64 j), (36, .bool (decide ((0 < j) ∧ (kcmp (kw (lw (rdl ws i))) (kw (rdl ls (j - 1))) < 0))))] (⟨5, 1, A_11, (lw (rdl ws i)).length, c_12, ints .u8 (lw (rdl ws i)), false⟩ :: ⟨23, 1, A1, n1, c1, vals, false⟩ :: Rs) ?_ ?_
   ·
    refine wr_case 28 rfl (fun hc3 => ?_) (fun hc3 => ?_)
    ·
     refine wr_yes rfl rfl <| wm rfl rfl <| wr_yes rfl rfl <| wm rfl rfl <| wr_yes rfl rfl <| wm rfl rfl <| wr_yes rfl rfl <| wS rfl rfl rfl (by omega) <| wr_yes rfl rfl <| wr_y rfl (y_index1 underlying22 sz23 rfl rfl (rdr 1 rfl) (by omega) (by omega)) <| wr_yes rfl rfl ?_
     obtain ⟨A_13, c_14, hv_15, hr_16⟩ := hsl.at (i := j - 1) (by omega) (by omega)
     refine wr_y rfl (y_ld underlying23 rfl rfl rfl (rdr 1 rfl) hv_15) <| wr_yes rfl rfl <| wr_a rfl (a_callF en25 rfl (Ct.quiet (fun w hw => less9_ct ((rdr 0 rfl) w hw) ((fun _ h => hr_16 _ _ _ (h.right (R' := [_, _]))) w hw) (lw_bytes (hob _ (rdl_mem2 hi0 (by omega))).1) (hjm (by omega)).1 (by rw [lw_len]; omega) ⟨(hjm (by omega)).2.1, by have := (hjm (by omega)).2.2; omega⟩))) ?_
     rintro _ _ ⟨rfl, rfl⟩
     refine wr_y rfl (y_pickT rfl rfl) <| wr_nil ?_
     exact ⟨(sc rfl (sc rfl (sc rfl (sc rfl (sc rfl (Sub.to rfl (mb (by first | omega | exact ⟨fun h => ⟨(by assumption), h⟩, fun h => h.2⟩ | exact .inl (by assumption) | exact ⟨.inr, fun h => h.resolve_left (by assumption)⟩ | exact ⟨fun h => h.resolve_left (by assumption), .inr⟩ | simp [*])) Sub.nil)))))), fun _ h => h⟩
    ·
     refine wr_no rfl rfl rfl rfl <| wr_no rfl rfl rfl rfl <| wr_no rfl rfl rfl rfl <| wr_no rfl rfl rfl rfl <| wr_no rfl rfl rfl rfl <| wr_no rfl rfl rfl rfl <| wr_no rfl rfl rfl rfl <| wr_y rfl (y_pickF rfl rfl) <| wr_nil ?_
     exact ⟨(sc rfl (sc rfl (sc rfl (sc rfl (sc rfl (Sub.to rfl (mb_f (by first | omega | exact ⟨fun h => ⟨(by assumption), h⟩, fun h => h.2⟩ | exact .inl (by assumption) | exact ⟨.inr, fun h => h.resolve_left (by assumption)⟩ | exact ⟨fun h => h.resolve_left (by assumption), .inr⟩ | simp [*])) Sub.nil)))))), fun _ h => h⟩
   refine wr_nil <| w_if rfl (fun hc4 => ?_) (fun hc4 => ?_)
   ·
    have hst := hc4
    refine w_skip <| w_block <| w_reg <| wm rfl rfl <| wS rfl rfl rfl (by omega) <| wg rfl rfl <| wr_nil ?_
    exact ⟨j - 1, ⟨(by omega), (by omega), (fun q h1 h2 => by
      rcases Int.lt_or_le q j with g | g
      ·obtain rfl : q = j - 1 := by omega
       exact hst.2
      ·exact hup q g h2)⟩, (by omega), (sc rfl (sc rfl (sc rfl (sc rfl (sc rfl Sub.nil))))), fun _ h => h⟩
   ·
    have hst := hc4
    refine w_exit <| w_regd mixed <| wd_y 1 rfl (by kernel_rfl) rfl (y_move rfl) <| wd_y 2 rfl (by kernel_rfl) rfl (y_move rfl) <| wd_y 3 rfl (by kernel_rfl) rfl (y_sliceTo underlying22 sz23 rfl rfl (rdr 1 rfl) (by omega) (by omega)) <| wd_y 5 rfl (by kernel_rfl) rfl (y_move rfl) <| wd_y 8 rfl (by kernel_rfl) rfl (y_move rfl) <| wd_y 9 rfl (by kernel_rfl) rfl (y_move rfl) <| wd_y 10 rfl (by kernel_rfl) rfl (y_sliceFrom underlying22 sz23 rfl rfl (by omega) (by omega)) <| wd_two 0 6 (by kernel_rfl) ?_ ?_
    ·
     refine t1_a 0 rfl rfl (a_lit [] underlying22 zs23 rfl rfl rfl rfl) ?_
     rintro _ _ ⟨g_18, rfl, rfl⟩
     refine ⟨.inr fun _ h => h.right (R' := [_]), ?_⟩
     refine wd_two 4 6 (by kernel_rfl) ?_ ?_
     ·
      refine t1_a 4 rfl rfl (a_append 0 rfl rfl underlying22 zb23 rfl rfl rfl rfl rfl (RdC.toV (rdr 2 rfl) (by omega)) (hsl.take _).one (by dsimp only; omega)) ?_
      rintro _ _ ⟨A_19, c_20, rfl, rfl⟩
      refine ⟨.inl (by kernel_rfl), ?_⟩
      refine wd_rows (R1 := (⟨23, 1, A_19, (0 + ((j).toNat)), c_20, ([]) ++ ((vals).take (j).toNat), false⟩ :: ⟨5, 1, A_11, (lw (rdl ws i)).length, c_12, ints .u8 (lw (rdl ws i)), false⟩ :: ⟨23, 1, A1, n1, c1, vals, false⟩ :: Rs)) rfl <| wd_as (v := .slice A_19 (0 + ((j).toNat)) c_20) rfl <| wd_a 6 rfl (by kernel_rfl) rfl (a_lit [Value.slice A_11 ((lw (rdl ws i)).length) c_12] underlying22 zs23 rfl rfl rfl rfl) ?_
      rintro _ _ ⟨g_22, rfl, rfl⟩
      refine ⟨.inr fun _ h => h.right (R' := [_]), ?_⟩
      refine wd_a 7 rfl (by kernel_rfl) rfl (a_append 1 rfl rfl underlying22 zb23 rfl rfl rfl rfl rfl (rdr 0 rfl) (by simp [Value.oneCell']) (by dsimp only; omega)) ?_
      rintro _ _ ⟨A_23, c_24, rfl, rfl⟩
      refine ⟨.inl (by kernel_rfl), ?_⟩
      refine wd_rows (R1 := (⟨23, 1, (some ⟨g_22, 0, none⟩), 1, 1, [Value.slice A_11 ((lw (rdl ws i)).length) c_12], false⟩ :: ⟨23, 1, A_23, ((0 + ((j).toNat)) + 1), c_24, (([]) ++ ((vals).take (j).toNat)) ++ ([Value.slice A_11 ((lw (rdl ws i)).length) c_12]), false⟩ :: ⟨5, 1, A_11, (lw (rdl ws i)).length, c_12, ints .u8 (lw (rdl ws i)), false⟩ :: ⟨23, 1, A1, n1, c1, vals, false⟩ :: Rs)) rfl <| wd_as (v := .slice A_23 ((0 + ((j).toNat)) + 1) c_24) rfl <| wd_a 11 rfl (by kernel_rfl) rfl (a_append 1 rfl rfl underlying22 zb23 rfl rfl rfl rfl rfl (RdC.fromV (rdr 3 rfl) (by omega)) (hsl.drop _).one (by dsimp only; omega)) ?_
      rintro _ _ ⟨A_25, c_26, rfl, rfl⟩
      refine ⟨.inl (by kernel_rfl), ?_⟩
      refine wd_rows (R1 := (⟨23, 1, (some ⟨g_22, 0, none⟩), 1, 1, [Value.slice A_11 ((lw (rdl ws i)).length) c_12], false⟩ :: ⟨23, 1, A_25, (((0 + ((j).toNat)) + 1) + (n1 - (j).toNat)), c_26, ((([]) ++ ((vals).take (j).toNat)) ++ ([Value.slice A_11 ((lw (rdl ws i)).length) c_12])) ++ ((vals).drop (j).toNat), false⟩ :: ⟨5, 1, A_11, (lw (rdl ws i)).length, c_12, ints .u8 (lw (rdl ws i)), false⟩ :: ⟨23, 1, A1, n1, c1, vals, false⟩ :: Rs)) rfl <| wd_as (v := .slice A_25 (((0 + ((j).toNat)) + 1) + (n1 - (j).toNat)) c_26) rfl <| wd_y 12 rfl (by kernel_rfl) rfl (y_assign rfl) <| wd_nil (by kernel_rfl) <| w_reg <| wm rfl rfl <| wA rfl rfl rfl (by omega) <| wg rfl rfl <| wr_nil ?_
      exact ⟨i + 1, A_25, ((0 + ((j).toNat)) + 1) + (n1 - (j).toNat), c_26, ((([]) ++ ((vals).take (j).toNat)) ++ ([Value.slice A_11 ((lw (rdl ws i)).length) c_12])) ++ ((vals).drop (j).toNat), ([] ++ ls.take j.toNat ++ [lw (rdl ws i)] ++ ls.drop j.toNat), (⟨5, 1, A_11, (lw (rdl ws i)).length, c_12, ints .u8 (lw (rdl ws i)), false⟩ :: Rs), ⟨(by omega), (by omega), (by simp only [List.length_append, List.length_take, List.length_drop, List.length_cons, List.length_nil]; omega), (((((SlR.nilR _ _).app (hsl.take _)).right [_]).push rfl (fun _ _ _ h => rdr 0 rfl _ h)).app ((hsl.drop _).right [_])), (ins_ok hok (lw_bytes (hob _ (rdl_mem2 hi0 (by omega))).1) (by rw [lw_len]; omega)), (by rw [take_succ_rdl2 hi0 (by omega)]; exact hci.put (by omega) hj0 (by omega) hup hst)⟩, (by omega), (sc rfl (sc rfl (sc rfl Sub.nil))), fun _ h => h.selR (F := [_, _, _, _]) (F' := [_, _]) [1, 2] (by decide) rfl⟩
     ·
      refine t1_a 6 rfl rfl (a_lit [Value.slice A_11 ((lw (rdl ws i)).length) c_12] underlying22 zs23 rfl rfl rfl rfl) ?_
      rintro _ _ ⟨g_29, rfl, rfl⟩
      refine ⟨.inr fun _ h => h.right (R' := [_]), ?_⟩
      refine wd_a 4 rfl (by kernel_rfl) rfl (a_append 1 rfl rfl underlying22 zb23 rfl rfl rfl rfl rfl (RdC.toV (rdr 3 rfl) (by omega)) (hsl.take _).one (by dsimp only; omega)) ?_
      rintro _ _ ⟨A_30, c_31, rfl, rfl⟩
      refine ⟨.inl (by kernel_rfl), ?_⟩
      refine wd_rows (R1 := (⟨23, 1, (some ⟨g_29, 0, none⟩), 1, 1, [Value.slice A_11 ((lw (rdl ws i)).length) c_12], false⟩ :: ⟨23, 1, A_30, (0 + ((j).toNat)), c_31, ([]) ++ ((vals).take (j).toNat), false⟩ :: ⟨5, 1, A_11, (lw (rdl ws i)).length, c_12, ints .u8 (lw (rdl ws i)), false⟩ :: ⟨23, 1, A1, n1, c1, vals, false⟩ :: Rs)) rfl <| wd_as (v := .slice A_30 (0 + ((j).toNat)) c_31) rfl <| wd_a 7 rfl (by kernel_rfl) rfl (a_append 1 rfl rfl underlying22 zb23 rfl rfl rfl rfl rfl (rdr 0 rfl) (by simp [Value.oneCell']) (by dsimp only; omega)) ?_
      rintro _ _ ⟨A_32, c_33, rfl, rfl⟩
      refine ⟨.inl (by kernel_rfl), ?_⟩
      refine wd_rows (R1 := (⟨23, 1, (some ⟨g_29, 0, none⟩), 1, 1, [Value.slice A_11 ((lw (rdl ws i)).length) c_12], false⟩ :: ⟨23, 1, A_32, ((0 + ((j).toNat)) + 1), c_33, (([]) ++ ((vals).take (j).toNat)) ++ ([Value.slice A_11 ((lw (rdl ws i)).length) c_12]), false⟩ :: ⟨5, 1, A_11, (lw (rdl ws i)).length, c_12, ints .u8 (lw (rdl ws i)), false⟩ :: ⟨23, 1, A1, n1, c1, vals, false⟩ :: Rs)) rfl <| wd_as (v := .slice A_32 ((0 + ((j).toNat)) + 1) c_33) rfl <| wd_a 11 rfl (by kernel_rfl) rfl (a_append 1 rfl rfl underlying22 zb23 rfl rfl rfl rfl rfl (RdC.fromV (rdr 3 rfl) (by omega)) (hsl.drop _).one (by dsimp only; omega)) ?_
      rintro _ _ ⟨A_34, c_35, rfl, rfl⟩
      refine ⟨.inl (by kernel_rfl), ?_⟩
      refine wd_rows (R1 := (⟨23, 1, (some ⟨g_29, 0, none⟩), 1, 1, [Value.slice A_11 ((lw (rdl ws i)).length) c_12], false⟩ :: ⟨23, 1, A_34, (((0 + ((j).toNat)) + 1) + (n1 - (j).toNat)), c_35, ((([]) ++ ((vals).take (j).toNat)) ++ ([Value.slice A_11 ((lw (rdl ws i)).length) c_12])) ++ ((vals).drop (j).toNat), false⟩ :: ⟨5, 1, A_11, (lw (rdl ws i)).length, c_12, ints .u8 (lw (rdl ws i)), false⟩ :: ⟨23, 1, A1, n1, c1, vals, false⟩ :: Rs)) rfl <| wd_as (v := .slice A_34 (((0 + ((j).toNat)) + 1) + (n1 - (j).toNat)) c_35) rfl <| wd_y 12 rfl (by kernel_rfl) rfl (y_assign rfl) <| wd_nil (by kernel_rfl) <| w_reg <| wm rfl rfl <| wA rfl rfl rfl (by omega) <| wg rfl rfl <| wr_nil ?_
      exact ⟨i + 1, A_34, ((0 + ((j).toNat)) + 1) + (n1 - (j).toNat), c_35, ((([]) ++ ((vals).take (j).toNat)) ++ ([Value.slice A_11 ((lw (rdl ws i)).length) c_12])) ++ ((vals).drop (j).toNat), ([] ++ ls.take j.toNat ++ [lw (rdl ws i)] ++ ls.drop j.toNat), (⟨5, 1, A_11, (lw (rdl ws i)).length, c_12, ints .u8 (lw (rdl ws i)), false⟩ :: Rs), ⟨(by omega), (by omega), (by simp only [List.length_append, List.length_take, List.length_drop, List.length_cons, List.length_nil]; omega), (((((SlR.nilR _ _).app (hsl.take _)).right [_]).push rfl (fun _ _ _ h => rdr 0 rfl _ h)).app ((hsl.drop _).right [_])), (ins_ok hok (lw_bytes (hob _ (rdl_mem2 hi0 (by omega))).1) (by rw [lw_len]; omega)), (by rw [take_succ_rdl2 hi0 (by omega)]; exact hci.put (by omega) hj0 (by omega) hup hst)⟩, (by omega), (sc rfl (sc rfl (sc rfl Sub.nil))), fun _ h => h.selR (F := [_, _, _, _]) (F' := [_, _]) [1, 2] (by decide) rfl⟩
    ·
     refine t1_a 6 rfl rfl (a_lit [Value.slice A_11 ((lw (rdl ws i)).length) c_12] underlying22 zs23 rfl rfl rfl rfl) ?_
     rintro _ _ ⟨g_38, rfl, rfl⟩
     refine ⟨.inr fun _ h => h.right (R' := [_]), ?_⟩
     refine wd_a 0 rfl (by kernel_rfl) rfl (a_lit [] underlying22 zs23 rfl rfl rfl rfl) ?_
     rintro _ _ ⟨g_40, rfl, rfl⟩
     refine ⟨.inr fun _ h => h.right (R' := [_]), ?_⟩
     refine wd_a 4 rfl (by kernel_rfl) rfl (a_append 0 rfl rfl underlying22 zb23 rfl rfl rfl rfl rfl (RdC.toV (rdr 3 rfl) (by omega)) (hsl.take _).one (by dsimp only; omega)) ?_
     rintro _ _ ⟨A_41, c_42, rfl, rfl⟩
     refine ⟨.inl (by kernel_rfl), ?_⟩
     refine wd_rows (R1 := (⟨23, 1, A_41, (0 + ((j).toNat)), c_42, ([]) ++ ((vals).take (j).toNat), false⟩ :: ⟨23, 1, (some ⟨g_38, 0, none⟩), 1, 1, [Value.slice A_11 ((lw (rdl ws i)).length) c_12], false⟩ :: ⟨5, 1, A_11, (lw (rdl ws i)).length, c_12, ints .u8 (lw (rdl ws i)), false⟩ :: ⟨23, 1, A1, n1, c1, vals, false⟩ :: Rs)) rfl <| wd_as (v := .slice A_41 (0 + ((j).toNat)) c_42) rfl <| wd_a 7 rfl (by kernel_rfl) rfl (a_append 0 rfl rfl underlying22 zb23 rfl rfl rfl rfl rfl (rdr 1 rfl) (by simp [Value.oneCell']) (by dsimp only; omega)) ?_
     rintro _ _ ⟨A_43, c_44, rfl, rfl⟩
     refine ⟨.inl (by kernel_rfl), ?_⟩
     refine wd_rows (R1 := (⟨23, 1, A_43, ((0 + ((j).toNat)) + 1), c_44, (([]) ++ ((vals).take (j).toNat)) ++ ([Value.slice A_11 ((lw (rdl ws i)).length) c_12]), false⟩ :: ⟨23, 1, (some ⟨g_38, 0, none⟩), 1, 1, [Value.slice A_11 ((lw (rdl ws i)).length) c_12], false⟩ :: ⟨5, 1, A_11, (lw (rdl ws i)).length, c_12, ints .u8 (lw (rdl ws i)), false⟩ :: ⟨23, 1, A1, n1, c1, vals, false⟩ :: Rs)) rfl <| wd_as (v := .slice A_43 ((0 + ((j).toNat)) + 1) c_44) rfl <| wd_a 11 rfl (by kernel_rfl) rfl (a_append 0 rfl rfl underlying22 zb23 rfl rfl rfl rfl rfl (RdC.fromV (rdr 3 rfl) (by omega)) (hsl.drop _).one (by dsimp only; omega)) ?_
     rintro _ _ ⟨A_45, c_46, rfl, rfl⟩
     refine ⟨.inl (by kernel_rfl), ?_⟩
     refine wd_rows (R1 := (⟨23, 1, A_45, (((0 + ((j).toNat)) + 1) + (n1 - (j).toNat)), c_46, ((([]) ++ ((vals).take (j).toNat)) ++ ([Value.slice A_11 ((lw (rdl ws i)).length) c_12])) ++ ((vals).drop (j).toNat), false⟩ :: ⟨23, 1, (some ⟨g_38, 0, none⟩), 1, 1, [Value.slice A_11 ((lw (rdl ws i)).length) c_12], false⟩ :: ⟨5, 1, A_11, (lw (rdl ws i)).length, c_12, ints .u8 (lw (rdl ws i)), false⟩ :: ⟨23, 1, A1, n1, c1, vals, false⟩ :: Rs)) rfl <| wd_as (v := .slice A_45 (((0 + ((j).toNat)) + 1) + (n1 - (j).toNat)) c_46) rfl <| wd_y 12 rfl (by kernel_rfl) rfl (y_assign rfl) <| wd_nil (by kernel_rfl) <| w_reg <| wm rfl rfl <| wA rfl rfl rfl (by omega) <| wg rfl rfl <| wr_nil ?_
     exact ⟨i + 1, A_45, ((0 + ((j).toNat)) + 1) + (n1 - (j).toNat), c_46, ((([]) ++ ((vals).take (j).toNat)) ++ ([Value.slice A_11 ((lw (rdl ws i)).length) c_12])) ++ ((vals).drop (j).toNat), ([] ++ ls.take j.toNat ++ [lw (rdl ws i)] ++ ls.drop j.toNat), (⟨5, 1, A_11, (lw (rdl ws i)).length, c_12, ints .u8 (lw (rdl ws i)), false⟩ :: Rs), ⟨(by omega), (by omega), (by simp only [List.length_append, List.length_take, List.length_drop, List.length_cons, List.length_nil]; omega), (((((SlR.nilR _ _).app (hsl.take _)).right [_]).push rfl (fun _ _ _ h => rdr 0 rfl _ h)).app ((hsl.drop _).right [_])), (ins_ok hok (lw_bytes (hob _ (rdl_mem2 hi0 (by omega))).1) (by rw [lw_len]; omega)), (by rw [take_succ_rdl2 hi0 (by omega)]; exact hci.put (by omega) hj0 (by omega) hup hst)⟩, (by omega), (sc rfl (sc rfl (sc rfl Sub.nil))), fun _ h => h.selR (F := [_, _, _, _]) (F' := [_, _]) [0, 2] (by decide) rfl⟩
 ·
  refine w_exit <| wq <| wm rfl rfl <| wg rfl rfl <| wr_nil <| w_retR (R1 := (⟨23, 1, A1, n1, c1, vals, false⟩ :: Rs)) (fun _ h => h) ?_
  refine ⟨_, rfl, ?_⟩
  obtain rfl : i = ws.length := by omega
  rw [Int.toNat_natCast, List.take_length] at hci
  obtain rfl : ls = canon ws := hci.done fun c hc => (hok c hc).2.1
  subst hn1
  exact ⟨_, _, vals, Rs, rfl, hsl, rfl⟩

end Go.Proofs.YtdfcnalkdlifiaaGreat

/-! ## N6 -/
namespace Go.Proofs.YtdfcnalkdlifiaaGreat
open Go Go.Eng Go.Pure
set_option linter.unusedVariables false
theorem cw_step {β : Type} (f : List Int → β) {ls : List (List Int)} {i : Int} (h0 : 0 ≤ i) (h1 : i < ls.length) : (ls.take (i + 1).toNat).map f = (ls.take i.toNat).map f ++ [f (rdl ls i)] := by
 rw [take_succ_rdl2 h0 h1, List.map_append]; rfl
abbrev longP (M : Nat) (ws : List (List Int)) : Prop := M < (ws.take 40).flatten.length ∨ 30 < ws.length
theorem okB_nil : OkB [] := fun l hl => by cases hl
end Go.Proofs.YtdfcnalkdlifiaaGreat

/-! ## Q30 -/
namespace Go.Pure
open Go Go.Eng
section
variable {p : List Int}
/-- From k on, asx long asx nothing comes twice. -/
def walkC (p : List Int) : Nat → List Bool → Int → List Int × List Bool
 | 0, E, _ => ([], E)
 | f + 1, E, k => if rdb E k = true then ([], E) else (k :: (walkC p f (updB E k true) (rd p k)).1, (walkC p f (updB E k true) (rd p k)).2)
/-- How many have not come. -/
def cntF (E : List Bool) : Nat := E.countP fun b => !b
theorem cntF_rep (n : Nat) : cntF (List.replicate n false) = n := by unfold cntF; rw [List.countP_replicate]; simp
theorem cntF_upd {E : List Bool} {k : Int} (k0 : 0 ≤ k) (hk : k < E.length) (h : rdb E k ≠ true) : cntF (updB E k true) + 1 = cntF E := by
 have hlt : k.toNat < E.length := by omega
 have e : E[k.toNat] = false := by
  have h2 : rdb E k = E[k.toNat] := by unfold rdb; rw [List.getD_eq_getElem?_getD, List.getElem?_eq_getElem hlt]; rfl
  rw [h2] at h
  simpa using h
 unfold cntF updB
 rw [List.countP_set hlt, e]
 simp only [Bool.not_true, Bool.not_false, Bool.false_eq_true, if_false, if_true, Nat.add_zero]
 have : 0 < E.countP fun b => !b := List.countP_pos_iff.2 ⟨E[k.toNat], List.getElem_mem hlt, by rw [e]; rfl⟩
 omega
theorem walkC_seen {f : Nat} {E : List Bool} {k : Int} (h : rdb E k = true) : walkC p f E k = ([], E) := by
 cases f with
 | zero => rfl
 | succ f => rw [walkC, if_pos h]
theorem cntF_pos {E : List Bool} {k : Int} (k0 : 0 ≤ k) (hk : k < E.length) (h : rdb E k ≠ true) : 0 < cntF E := by have := cntF_upd k0 hk h; omega
theorem walkC_go {f : Nat} {E : List Bool} {k : Int} (k0 : 0 ≤ k) (hk : k < E.length) (hf : cntF E ≤ f) (h : rdb E k ≠ true) : walkC p f E k = (k :: (walkC p (f - 1) (updB E k true) (rd p k)).1, (walkC p (f - 1) (updB E k true) (rd p k)).2) := by
 have := cntF_pos k0 hk h
 obtain ⟨g, rfl⟩ : ∃ g, f = g + 1 := ⟨f - 1, by omega⟩
 rw [walkC, if_neg h]
 rfl
/-- The rings from the first i places. -/
def cycK (p : List Int) : Nat → List Bool × List (List Int)
 | 0 => (List.replicate p.length false, [])
 | i + 1 => ((walkC p p.length (cycK p i).1 i).2, if (walkC p p.length (cycK p i).1 i).1 = [] then (cycK p i).2 else (cycK p i).2 ++ [(walkC p p.length (cycK p i).1 i).1])
def cycL (p : List Int) : List (List Int) := (cycK p p.length).2
theorem walkC_facts (hp : p.Perm (iota p.length)) : ∀ (f : Nat) (E : List Bool) (k : Int), E.length = p.length → 0 ≤ k → k < p.length → (walkC p f E k).2.length = p.length ∧ (∀ x ∈ (walkC p f E k).1, 0 ≤ x ∧ x < p.length) ∧ (walkC p f E k).1.length + cntF (walkC p f E k).2 = cntF E
 | 0, E, k, hl, _, _ => And.intro hl (And.intro (fun x hx => absurd hx (List.not_mem_nil (a := x))) (Nat.zero_add _))
 | f + 1, E, k, hl, k0, hk => by
  rw [walkC]
  split
  ·exact And.intro hl (And.intro (fun x hx => absurd hx (List.not_mem_nil (a := x))) (Nat.zero_add _))
  ·rename_i h
   have hn := mem_iota.1 (hp.subset (rd_mem (L := p) k0 hk))
   have ih := walkC_facts hp f (updB E k true) (rd p k) (by rw [updB_len]; exact hl) hn.1 hn.2
   have hc := cntF_upd k0 (by omega) h
   refine ⟨ih.1, fun x hx => ?_, ?_⟩
   ·rcases List.mem_cons.1 hx with rfl | hx
    ·exact ⟨k0, hk⟩
    ·exact ih.2.1 x hx
   ·have := ih.2.2
    simp only [List.length_cons]
    omega
theorem cycK_facts (hp : p.Perm (iota p.length)) : ∀ i : Nat, i ≤ p.length → (cycK p i).1.length = p.length ∧ (∀ c ∈ (cycK p i).2, ∀ x ∈ c, 0 ≤ x ∧ x < p.length) ∧ (cycK p i).2.flatten.length + cntF (cycK p i).1 = p.length
 | 0, _ => ⟨by simp [cycK], fun c hc => (by cases hc), by simp [cycK, cntF_rep]⟩
 | i + 1, hi => by
  have ih := cycK_facts hp i (by omega)
  have hw := walkC_facts hp p.length (cycK p i).1 i ih.1 (by omega) (by omega)
  rw [cycK]
  refine ⟨hw.1, ?_, ?_⟩
  ·intro c hc x hx
   split at hc
   ·exact ih.2.1 c hc x hx
   ·rcases List.mem_append.1 hc with hc | hc
    ·exact ih.2.1 c hc x hx
    ·obtain rfl := List.mem_singleton.1 hc
     exact hw.2.1 x hx
  ·split
   ·rename_i h
    have h2 := hw.2.2
    rw [h] at h2
    have := ih.2.2
    simp only [List.length_nil] at h2
    show (cycK p i).2.flatten.length + cntF (walkC p p.length (cycK p i).1 i).2 = p.length
    omega
   ·rw [List.flatten_append, List.length_append]
    have h2 := hw.2.2
    have := ih.2.2
    simp only [List.flatten_cons, List.flatten_nil, List.append_nil]
    omega
theorem cycL_in (hp : p.Perm (iota p.length)) : ∀ c ∈ cycL p, ∀ x ∈ c, 0 ≤ x ∧ x < p.length := (cycK_facts hp p.length (Nat.le_refl _)).2.1
theorem cycL_len (hp : p.Perm (iota p.length)) : (cycL p).flatten.length ≤ p.length := by have := (cycK_facts hp p.length (Nat.le_refl _)).2.2; unfold cycL; omega
/-- No ring is empty: there are no more than places. -/
theorem cycK_few (p : List Int) : ∀ i : Nat, (cycK p i).2.length ≤ i
 | 0 => by simp [cycK]
 | i + 1 => by
  have := cycK_few p i
  rw [cycK]
  split
  ·exact Nat.le_succ_of_le this
  ·rw [List.length_append]; simp only [List.length_singleton]; omega
theorem cyc_yes {i : Int} {E E2 : List Bool} {ls : List (List Int)} {acc : List Int} (i0 : 0 ≤ i) (hcy : cycK p i.toNat = (E, ls)) (hse : walkC p p.length E i = (acc, E2)) (hne : acc ≠ []) : cycK p (i + 1).toNat = (E2, ls ++ [acc]) := by
 rw [show (i + 1).toNat = i.toNat + 1 by omega, cycK, hcy]
 simp only [show ((i.toNat : Nat) : Int) = i by omega, hse, if_neg hne]
theorem cyc_no {i : Int} {E E2 : List Bool} {ls : List (List Int)} {acc : List Int} (i0 : 0 ≤ i) (hcy : cycK p i.toNat = (E, ls)) (hse : walkC p p.length E i = (acc, E2)) (hne : acc = []) : cycK p (i + 1).toNat = (E2, ls) := by
 rw [show (i + 1).toNat = i.toNat + 1 by omega, cycK, hcy]
 simp only [show ((i.toNat : Nat) : Int) = i by omega, hse, if_pos hne]
theorem walk_bound (hp : p.Perm (iota p.length)) {f : Nat} {E E2 : List Bool} {acc : List Int} {i k : Int} (hl : E.length = p.length) (i0 : 0 ≤ i) (hi : i < p.length) (hw : (acc ++ (walkC p f E2 k).1, (walkC p f E2 k).2) = walkC p p.length E i) : acc.length ≤ p.length := by
 have h := (walkC_facts hp p.length E i hl i0 hi).2.2
 rw [← hw] at h
 simp only [List.length_append] at h
 have : cntF E ≤ E.length := List.countP_le_length
 omega
/-- A ring's letters, the last one first. -/
def wordC (l c : List Int) : List Int := c.reverse.map (rd l)
/-- What is read back: all rings, the last one first. -/
def backL (l : List Int) (cs : List (List Int)) : List Int := (cs.reverse.map (wordC l)).flatten
theorem wordC_step {l c : List Int} {k : Nat} (hk : k < c.length) : ((c.reverse).take (k + 1)).map (rd l) = ((c.reverse).take k).map (rd l) ++ [rd l (rd c (c.length - 1 - k))] := by
 have hlt : k < c.reverse.length := by rw [List.length_reverse]; exact hk
 rw [List.take_add_one, List.getElem?_eq_getElem hlt, List.map_append]
 congr 1
 simp only [Option.toList_some, List.map_cons, List.map_nil]
 congr 2
 rw [List.getElem_reverse, rd_getI (by omega) (by omega)]
 congr 1
 omega
theorem wordC_len (l c : List Int) : (wordC l c).length = c.length := by simp [wordC]
end
end Go.Pure

/-! ## H1 -/
namespace Go.Proofs.YtdfcnalkdlifiaaGreat
open Go Go.Eng Go.Pure
open Tryz
set_option linter.unusedVariables false
theorem not_again {a : List Int} (hd : a.Nodup) {i : Int} (i0 : 0 ≤ i) (hi : i < a.length) : rd a i ∉ a.take i.toNat := fun h => by
 obtain ⟨q, hq, e⟩ := List.mem_iff_getElem.1 h
 rw [List.length_take] at hq
 rw [List.getElem_take] at e
 have := rd_inj hd (i := (q : Int)) (j := i) (by omega) (by omega) i0 hi (by rw [rd_getI (i := (q : Int)) (by omega) (by omega)]; simp only [Int.toNat_natCast]; exact e)
 omega
theorem seen_step {a : List Int} {E : List Bool} {i : Int} {n : Nat} (i0 : 0 ≤ i) (hi : i < a.length) (hl : E.length = n) (ha : 0 ≤ rd a i ∧ rd a i < n) (h : ∀ x : Int, 0 ≤ x → x < n → (rdb E x = true ↔ x ∈ a.take i.toNat)) : ∀ x : Int, 0 ≤ x → x < n → (rdb (updB E (rd a i) true) x = true ↔ x ∈ a.take (i + 1).toNat) := by
 intro x x0 x1
 rw [take_rd i0 hi, rdb_upd ha.1 (by omega) x0, List.mem_append, List.mem_singleton]
 split
 ·rename_i e; exact ⟨fun _ => .inr e, fun _ => rfl⟩
 ·rename_i e; rw [h x x0 x1]; exact ⟨.inl, fun h => h.resolve_right e⟩
theorem inv_step {a V : List Int} {i : Int} {n : Nat} (i0 : 0 ≤ i) (hi : i < a.length) (hd : a.Nodup) (hl : V.length = n) (ha : ∀ q : Int, 0 ≤ q → q < a.length → 0 ≤ rd a q ∧ rd a q < n) (h : ∀ q : Int, 0 ≤ q → q < i → rd V (rd a q) = q) : ∀ q : Int, 0 ≤ q → q < i + 1 → rd (upd V (rd a i) i) (rd a q) = q := by
 intro q q0 q1
 have h1 := ha i i0 hi
 have h2 := ha q q0 (by omega)
 rw [rd_upd h1.1 h2.1 (by omega)]
 split
 ·rename_i e; exact rd_inj hd i0 hi q0 (by omega) e.symm
 ·rename_i e
  refine h q q0 ?_
  rcases Int.lt_or_le q i with g | g
  ·exact g
  ·obtain rfl : q = i := by omega
   exact absurd rfl e
def fsL (l : List Int) : List Int := (iota l.length).map (lfC l)
theorem fsL_len (l : List Int) : (fsL l).length = l.length := by unfold fsL; rw [List.length_map, iota_len]
theorem rd_fsL {l : List Int} {i : Int} (i0 : 0 ≤ i) (hi : i < l.length) : rd (fsL l) i = lfC l i := by
 unfold fsL
 rw [rd_map i0 (by rw [iota_len]; exact hi), rd_iota i0 hi]
theorem pk_len {l : List Int} (hl : ByteL l) : (passK (iota l.length) l (256 : Int).toNat).length = l.length := by
 have := (lf_order (l := l) hl).1.length_eq
 rwa [iota_len] at this
theorem pk_perm {l : List Int} (hl : ByteL l) : (passK (iota l.length) l (256 : Int).toNat).Perm (iota (passK (iota l.length) l (256 : Int).toNat).length) := by
 rw [pk_len hl]
 exact (lf_order (l := l) hl).1
theorem fs_of {l V : List Int} (hl : ByteL l) (h1 : V.length = (passK (iota l.length) l (256 : Int).toNat).length) (h2 : ∀ q : Int, 0 ≤ q → q < (passK (iota l.length) l (256 : Int).toNat).length → rd V (rd (passK (iota l.length) l (256 : Int).toNat) q) = q) : V = fsL l := by
 rw [pk_len hl] at h1 h2
 refine list_ext_rd (by rw [h1, fsL_len]) fun j j0 j1 => ?_
 rw [rd_fsL j0 (by omega)]
 obtain ⟨q, q0, q1, e, f⟩ := lf_ix (l := l) hl j0 (by omega)
 rw [f, ← e]
 exact h2 q q0 q1
set_option maxRecDepth 100000 in
set_option maxHeartbeats 800000 in
theorem rinv_ct {w : World} {A_a : Option Addr} {n_a c_a : Nat} {a : List Int} (h_a : Rd w A_a n_a c_a 1 (ints .i64 a)) (hp : a.Perm (iota a.length)) (hN : a.length ≤ 1000000) :
  Ct Tryz.prog 67 #[.slice A_a n_a c_a] w.heap.size w [] (fun v R' => ∃ A c V, v = .tuple #[.slice A a.length c, .bool true] ∧ V.length = a.length ∧ (∀ q : Int, 0 ≤ q → q < a.length → rd V (rd a q) = q) ∧ R' = [⟨3, 1, A, a.length, c, ints .i64 V, false⟩]) := by
 obtain rfl := h_a.lenI
 refine fn2 Tryz.func67 rfl rfl rfl ?_
 have m_a := h_a.max
 have hnd : a.Nodup := hp.symm.nodup (iota_nodup _)
 have hall : ∀ q : Int, 0 ≤ q → q < a.length → 0 ≤ rd a q ∧ rd a q < a.length := fun q q0 q1 => mem_iota.1 (hp.subset (rd_mem q0 q1))
 refine wq <| wg rfl rfl <| wg rfl rfl <| wr_nil <| wq <| wm rfl rfl <| wr_y rfl (y_len underlying24 rfl) <| wr_a rfl (a_makeN underlying24 zb3 rfl rfl (by omega) (by omega) (by omega)) ?_
 rintro _ _ ⟨g_1, rfl, rfl⟩
 refine wr_rows (R1 := [⟨3, 1, (some ⟨g_1, 0, none⟩), a.length, a.length, ints .i64 (List.replicate a.length (0 : Int)), false⟩]) rfl <| wr_as (v := .slice (some ⟨g_1, 0, none⟩) a.length a.length) rfl <| wg rfl rfl <| wr_nil <| wq <| wm rfl rfl <| wr_y rfl (y_len underlying24 rfl) <| wr_a rfl (a_makeB underlying101 zb4 rfl rfl (by omega) (by omega) (by omega)) ?_
 rintro _ _ ⟨g_2, rfl, rfl⟩
 refine wr_rows (R1 := [⟨4, 1, (some ⟨g_2, 0, none⟩), a.length, a.length, bools (List.replicate a.length false), false⟩, ⟨3, 1, (some ⟨g_1, 0, none⟩), a.length, a.length, ints .i64 (List.replicate a.length (0 : Int)), false⟩]) rfl <| wr_as (v := .slice (some ⟨g_2, 0, none⟩) a.length a.length) rfl <| wg rfl rfl <| wr_nil <| w_seq <| wq <| wm rfl rfl <| wr_y rfl (y_len underlying24 rfl) <| wm rfl rfl <| wr_nil <| w_block ?_
 refine w_loop3 (fun (i : Int) (V : List Int) (E : List Bool) => [(0, .slice A_a a.length c_a), (4, .slice (some ⟨g_1, 0, none⟩) a.length a.length), (5, .slice (some ⟨g_2, 0, none⟩) a.length a.length), (14, .slice A_a a.length c_a), (15, .int .i64 ((a.length : Nat) : Int)), (16, .int .i64 i)]) (fun (i : Int) (V : List Int) (E : List Bool) => [⟨4, 1, (some ⟨g_2, 0, none⟩), a.length, a.length, bools E, false⟩, ⟨3, 1, (some ⟨g_1, 0, none⟩), a.length, a.length, ints .i64 V, false⟩]) (fun (i : Int) (V : List Int) (E : List Bool) => (0 ≤ i) ∧ (i ≤ a.length) ∧ (V.length = a.length) ∧ (E.length = a.length) ∧ (∀ x : Int, 0 ≤ x → x < a.length → (rdb E x = true ↔ x ∈ a.take i.toNat)) ∧ (∀ q : Int, 0 ≤ q → q < i → rd V (rd a q) = q)) (fun (i : Int) (V : List Int) (E : List Bool) => (a.length - i).toNat) ?_ ?_
 ·
  exact ⟨0, List.replicate a.length (0 : Int), List.replicate a.length false, ⟨(by omega), (by omega), (by rw [List.length_replicate]), (by rw [List.length_replicate]), (fun x h0 h1 => by rw [rdb_rep]; simp), (fun q h0 h1 => by omega)⟩, (sc rfl (sc rfl (sc rfl (sc rfl (sc rfl (sc rfl Sub.nil)))))), fun _ h => h⟩
 intro i V E ⟨hi0, hi1, hVl, hEl, hE, hV⟩
 refine wq <| wL rfl rfl rfl <| wr_nil <| w_seq <| w_if rfl (fun hc1 => ?_) (fun hc1 => ?_)
 ·
  have ha := hall i hi0 (by omega)
  have hno := not_again hnd hi0 (by omega)
  refine w_skip <| w_seq <| w_block <| wq <| wm rfl rfl <| wr_y rfl (y_index1 underlying24 sz3 rfl rfl (h_a.c _) (by omega) (by omega)) <| wr_y rfl (y_ldI underlying3 rfl rfl (h_a.c _) (by omega) (by omega)) <| wg rfl rfl <| wg rfl rfl <| wr_nil <| w_seq <| wq <| wm rfl rfl ?_
  refine wr_y rfl (Yl.f (y_lt rfl rfl) (by omega)) <| wm rfl rfl <| wr_yes rfl rfl <| wm rfl rfl <| wr_yes rfl rfl <| wm rfl rfl <| wr_yes rfl rfl <| wr_y rfl (y_len underlying24 rfl) <| wr_yes rfl rfl <| wr_y rfl (Yl.f (y_ge rfl rfl) (by omega)) <| wr_y rfl (y_pickF rfl rfl) <| wm rfl rfl <| wr_yes rfl rfl <| wm rfl rfl <| wr_yes rfl rfl ?_
  refine wm rfl rfl <| wr_yes rfl rfl <| wr_y rfl (y_index1 underlying101 sz4 rfl rfl (rdr 0 rfl) (by omega) (by omega)) <| wr_yes rfl rfl <| wr_y rfl (Yl.f (y_ldB underlying4 rfl rfl (rdr 0 rfl) (by omega) (by omega)) (fun h => hno ((hE _ ha.1 ha.2).1 h))) <| wr_y rfl (y_pickF rfl rfl) <| wr_nil <| w_false rfl <| w_skip <| w_reg <| wm rfl rfl <| wm rfl rfl <| wm rfl rfl <| wm rfl rfl <| wm rfl rfl ?_
  refine wr_y rfl (y_index1 underlying24 sz3 rfl rfl (rdr 1 rfl) (by omega) (by omega)) <| wr_n (a_storeI 1 rfl sz3 rfl rfl (by omega) (by omega)) ?_
  rintro _ _ rfl
  refine wr_rows (R1 := [⟨4, 1, (some ⟨g_2, 0, none⟩), a.length, a.length, bools E, false⟩, ⟨3, 1, (some ⟨g_1, 0, none⟩), a.length, a.length, ints .i64 (upd V (rd a i) i), false⟩]) rfl <| wr_y rfl (y_index1 underlying101 sz4 rfl rfl (rdr 0 rfl) (by omega) (by omega)) <| wr_n (a_storeB 0 rfl sz4 rfl rfl (by omega) (by omega)) ?_
  rintro _ _ rfl
  refine wr_rows (R1 := [⟨4, 1, (some ⟨g_2, 0, none⟩), a.length, a.length, bools (updB E (rd a i) true), false⟩, ⟨3, 1, (some ⟨g_1, 0, none⟩), a.length, a.length, ints .i64 (upd V (rd a i) i), false⟩]) rfl <| wr_nil <| w_reg <| wA rfl rfl rfl (by omega) <| wm rfl rfl <| wr_nil ?_
  exact ⟨i + 1, upd V (rd a i) i, updB E (rd a i) true, ⟨(by omega), (by omega), (by rw [upd_length]; exact hVl), (by rw [updB_len]; exact hEl), (seen_step hi0 (by omega) hEl ha hE), (inv_step hi0 (by omega) hnd hVl hall hV)⟩, (by omega), (sc rfl (sc rfl (sc rfl (sc rfl (sc rfl (sc rfl Sub.nil)))))), fun _ h => h⟩
 ·
  refine w_exit <| wq <| wm rfl rfl <| wg rfl rfl <| wg rfl rfl <| wr_nil <| w_retR (R1 := [⟨3, 1, (some ⟨g_1, 0, none⟩), a.length, a.length, ints .i64 V, false⟩]) (fun _ h => h.sel [1] (by decide) rfl) ?_
  refine ⟨_, _, rfl, rfl, ?_⟩
  exact ⟨_, _, V, rfl, hVl, fun q h0 h1 => hV q h0 (by omega), rfl⟩

set_option maxRecDepth 100000 in
theorem ris_ct {w : World} {A_a : Option Addr} {n_a c_a : Nat} {a : List Int} (h_a : Rd w A_a n_a c_a 1 (ints .i64 a)) (hp : a.Perm (iota a.length)) (hN : a.length ≤ 1000000) :
  Ct Tryz.prog 65 #[.slice A_a n_a c_a] w.heap.size w [] (fun v R' => v = .bool true) := by
 obtain rfl := h_a.lenI
 refine fn1 Tryz.func65 rfl rfl rfl ?_
 have m_a := h_a.max
 refine wq <| wg rfl rfl <| wr_nil <| wq <| wm rfl rfl <| wr_a rfl (a_callF en67 rfl (Ct.fresh (fun w hw => rinv_ct ((h_a.c _) w hw) hp hN))) ?_
 rintro _ _ ⟨_, rfl, A_1, c_2, inv, rfl, hl_inv, hq_inv, rfl⟩
 refine wm rfl rfl <| wX rfl rfl rfl <| wX rfl rfl rfl <| wg rfl rfl <| wg rfl rfl <| wr_nil <| wq <| wm rfl rfl <| wg rfl rfl <| wr_nil <| w_retR (R1 := []) (fun _ h => h.sel [] (by decide) rfl) ?_
 refine ⟨_, rfl, ?_⟩
 rfl

set_option maxRecDepth 100000 in
set_option maxHeartbeats 800000 in
theorem lfOf_ct {w : World} {A_u : Option Addr} {n_u c_u : Nat} {u : List Int} (h_u : Rd w A_u n_u c_u 1 (ints .u8 u)) (bh_u : ByteL u) (hN : u.length ≤ 1000000) :
  Ct Tryz.prog 38 #[.slice A_u n_u c_u] w.heap.size w [] (fun v R' => ∃ A c, v = .slice A (fsL u).length c ∧ R' = [⟨3, 1, A, (fsL u).length, c, ints .i64 (fsL u), false⟩]) := by
 obtain rfl := h_u.lenI
 refine fn1 Tryz.func38 rfl rfl rfl ?_
 have m_u := h_u.max
 refine wq <| wg rfl rfl <| wr_nil <| wq <| wm rfl rfl <| wr_y rfl (y_len underlying23 rfl) <| wr_a rfl (a_makeN underlying24 zb3 rfl rfl (by omega) (by omega) (by omega)) ?_
 rintro _ _ ⟨g_1, rfl, rfl⟩
 refine wr_rows (R1 := [⟨3, 1, (some ⟨g_1, 0, none⟩), u.length, u.length, ints .i64 (List.replicate u.length (0 : Int)), false⟩]) rfl <| wr_as (v := .slice (some ⟨g_1, 0, none⟩) u.length u.length) rfl <| wg rfl rfl <| wr_nil <| wq <| wm rfl rfl <| wr_y rfl (y_len underlying23 rfl) <| wr_a rfl (a_makeN underlying24 zb3 rfl rfl (by omega) (by omega) (by omega)) ?_
 rintro _ _ ⟨g_2, rfl, rfl⟩
 refine wr_rows (R1 := [⟨3, 1, (some ⟨g_2, 0, none⟩), u.length, u.length, ints .i64 (List.replicate u.length (0 : Int)), false⟩, ⟨3, 1, (some ⟨g_1, 0, none⟩), u.length, u.length, ints .i64 (List.replicate u.length (0 : Int)), false⟩]) rfl <| wr_as (v := .slice (some ⟨g_2, 0, none⟩) u.length u.length) rfl <| wg rfl rfl <| wr_nil <| w_seq <| wq <| wm rfl rfl <| wr_y rfl (y_len underlying23 rfl) <| wm rfl rfl <| wr_nil <| w_block ?_
 refine w_loop3 (fun (i : Int) (V : List Int) (K : List Int) => [(3, .slice (some ⟨g_1, 0, none⟩) u.length u.length), (4, .slice (some ⟨g_2, 0, none⟩) u.length u.length), (15, .slice A_u u.length c_u), (16, .int .i64 ((u.length : Nat) : Int)), (17, .int .i64 i)]) (fun (i : Int) (V : List Int) (K : List Int) => [⟨3, 1, (some ⟨g_2, 0, none⟩), u.length, u.length, ints .i64 K, false⟩, ⟨3, 1, (some ⟨g_1, 0, none⟩), u.length, u.length, ints .i64 V, false⟩]) (fun (i : Int) (V : List Int) (K : List Int) => (0 ≤ i) ∧ (i ≤ u.length) ∧ (V.length = u.length) ∧ (K.length = u.length) ∧ (∀ j : Int, 0 ≤ j → j < i → rd V j = j) ∧ (∀ j : Int, 0 ≤ j → j < i → rd K j = rd u j)) (fun (i : Int) (V : List Int) (K : List Int) => (u.length - i).toNat) ?_ ?_
 ·
  exact ⟨0, List.replicate u.length (0 : Int), List.replicate u.length (0 : Int), ⟨(by omega), (by omega), (by rw [List.length_replicate]), (by rw [List.length_replicate]), (fun j h1 h2 => by omega), (fun j h1 h2 => by omega)⟩, (sc rfl (sc rfl (sc rfl (sc rfl (sc rfl Sub.nil))))), fun _ h => h⟩
 intro i V K ⟨hi0, hi1, hVl, hKl, hV, hK⟩
 refine wq <| wL rfl rfl rfl <| wr_nil <| w_seq <| w_if rfl (fun hc1 => ?_) (fun hc1 => ?_)
 ·
  have hbi := bh_u.rd i
  refine w_skip <| w_seq <| w_block <| wq <| wm rfl rfl <| wr_y rfl (y_index1 underlying23 sz5 rfl rfl (h_u.c _) (by omega) (by omega)) <| wr_y rfl (y_ldI underlying5 rfl rfl (h_u.c _) (by omega) (by omega)) <| wg rfl rfl <| wg rfl rfl <| wr_nil <| w_reg <| wm rfl rfl <| wm rfl rfl <| wm rfl rfl ?_
  refine wm rfl rfl <| wm rfl rfl <| wm rfl rfl <| wr_y rfl (y_convI underlying5 underlying3 rfl (by omega)) <| wr_y rfl (y_index1 underlying24 sz3 rfl rfl (rdr 1 rfl) (by omega) (by omega)) <| wr_n (a_storeI 1 rfl sz3 rfl rfl (by omega) (by omega)) ?_
  rintro _ _ rfl
  refine wr_rows (R1 := [⟨3, 1, (some ⟨g_2, 0, none⟩), u.length, u.length, ints .i64 K, false⟩, ⟨3, 1, (some ⟨g_1, 0, none⟩), u.length, u.length, ints .i64 (upd V i i), false⟩]) rfl <| wr_y rfl (y_index1 underlying24 sz3 rfl rfl (rdr 0 rfl) (by omega) (by omega)) <| wr_n (a_storeI 0 rfl sz3 rfl rfl (by omega) (by omega)) ?_
  rintro _ _ rfl
  refine wr_rows (R1 := [⟨3, 1, (some ⟨g_2, 0, none⟩), u.length, u.length, ints .i64 (upd K i (rd u i)), false⟩, ⟨3, 1, (some ⟨g_1, 0, none⟩), u.length, u.length, ints .i64 (upd V i i), false⟩]) rfl <| wr_nil <| w_reg <| wA rfl rfl rfl (by omega) <| wm rfl rfl <| wr_nil ?_
  exact ⟨i + 1, upd V i i, upd K i (rd u i), ⟨(by omega), (by omega), (by rw [upd_length]; exact hVl), (by rw [upd_length]; exact hKl), (fill_step (f := fun j => j) hi0 (by omega) hV rfl), (fill_step (f := fun j => rd u j) hi0 (by omega) hK rfl)⟩, (by omega), (sc rfl (sc rfl (sc rfl (sc rfl (sc rfl Sub.nil))))), fun _ h => h⟩
 ·
  obtain rfl : V = iota u.length := list_ext_rd (by rw [iota_len]; omega) fun j h0 h1 => by rw [rd_iota h0 (by omega)]; exact hV j h0 (by omega)
  obtain rfl : u = K := (list_ext_rd (by omega) fun j h0 h1 => hK j h0 (by omega) : K = u).symm
  refine w_exit <| wq <| wm rfl rfl <| wm rfl rfl <| wr_a rfl (a_callF en66 rfl (Ct.fresh (fun w hw => pass_ct ((rdr 1 rfl) w hw) ((rdr 0 rfl) w hw) (by omega) bh_u (fun i hi => mem_iota.1 hi) (by rw [iota_len]; omega)))) ?_
  rintro _ _ ⟨_, rfl, A_3, c_4, rfl, rfl⟩
  refine wm rfl rfl <| wX rfl rfl rfl <| wX rfl rfl rfl <| wg rfl rfl <| wr_nil <| wq <| wm rfl rfl <| wr_a rfl (a_callF en67 rfl (Ct.fresh (fun w hw => rinv_ct ((rdr 0 rfl) w hw) (pk_perm bh_u) (by rw [pk_len bh_u]; omega)))) ?_
  rintro _ _ ⟨_, rfl, A_5, c_6, inv, rfl, hl_inv, hq_inv, rfl⟩
  refine wm rfl rfl <| wX rfl rfl rfl <| wX rfl rfl rfl <| wg rfl rfl <| wg rfl rfl <| wr_nil <| wq <| wm rfl rfl <| wg rfl rfl <| wr_nil <| w_retR (R1 := [⟨3, 1, A_5, (passK (iota u.length) u ((256 : Int)).toNat).length, c_6, ints .i64 inv, false⟩]) (fun _ h => h.sel [0] (by decide) rfl) ?_
  refine ⟨_, rfl, ?_⟩
  obtain rfl : inv = fsL u := fs_of bh_u hl_inv hq_inv
  have el : (passK (iota u.length) u (256 : Int).toNat).length = (fsL u).length := by rw [pk_len bh_u, fsL_len]
  rw [el]
  exact ⟨_, _, rfl, rfl⟩

theorem fsL_perm {u : List Int} (hu : ByteL u) : (fsL u).Perm (iota (fsL u).length) := by
 rw [fsL_len]
 exact bij_perm (fun x h0 h1 => lf_bd (l := u) hu h0 h1) fun x y x0 x1 y0 y1 e => lf_inj (l := u) hu x0 x1 y0 y1 e
set_option maxRecDepth 100000 in
set_option maxHeartbeats 1500000 in
theorem cycles_ct {w : World} {A_p : Option Addr} {n_p c_p : Nat} {p : List Int} (h_p : Rd w A_p n_p c_p 1 (ints .i64 p)) (hp : p.Perm (iota p.length)) (hN : p.length ≤ 1000000) :
  Ct Tryz.prog 37 #[.slice A_p n_p c_p] w.heap.size w [] (fun v R' => ∃ (A : Option Addr) (c : Nat) (vals : List Value) (Rs : List Row), v = .tuple #[.slice A vals.length c, .bool true] ∧ SlR .i64 Rs vals (cycL p) ∧ R' = ⟨24, 1, A, vals.length, c, vals, false⟩ :: Rs) := by
 obtain rfl := h_p.lenI
 refine fn2 Tryz.func37 rfl rfl rfl ?_
 have m_p := h_p.max
 refine wq <| wg rfl rfl <| wg rfl rfl <| wr_nil <| w_seq <| wq <| wm rfl rfl <| wr_a rfl (a_callF en65 rfl (Ct.quiet (fun w hw => ris_ct ((h_p.c _) w hw) hp hN))) ?_
 rintro _ _ ⟨rfl, rfl⟩
 refine wr_y rfl (y_not rfl) <| wr_nil <| w_false rfl <| w_skip <| wq <| wm rfl rfl <| wr_y rfl (y_len underlying24 rfl) <| wr_a rfl (a_makeB underlying101 zb4 rfl rfl (by omega) (by omega) (by omega)) ?_
 rintro _ _ ⟨g_1, rfl, rfl⟩
 refine wr_rows (R1 := (⟨4, 1, (some ⟨g_1, 0, none⟩), p.length, p.length, bools (List.replicate p.length false), false⟩ :: [])) rfl <| wr_as (v := .slice (some ⟨g_1, 0, none⟩) p.length p.length) rfl <| wg rfl rfl <| wr_nil <| wq <| wr_a rfl (a_lit [] underlying59 zs24 rfl rfl rfl rfl) ?_
 rintro _ _ ⟨g_3, rfl, rfl⟩
 refine wg rfl rfl <| wr_nil <| w_seq <| wq <| wm rfl rfl <| wr_y rfl (y_len underlying24 rfl) <| wm rfl rfl <| wr_nil <| w_block ?_
 refine w_loop8 (fun (i : Int) (A1 : Option Addr) (n1 : Nat) (c1 : Nat) (vals : List Value) (ls : List (List Int)) (E : List Bool) (Rs : List Row) => [(0, .slice A_p p.length c_p), (4, .slice (some ⟨g_1, 0, none⟩) p.length p.length), (5, .slice A1 n1 c1), (17, .int .i64 ((p.length : Nat) : Int)), (18, .int .i64 i)]) (fun (i : Int) (A1 : Option Addr) (n1 : Nat) (c1 : Nat) (vals : List Value) (ls : List (List Int)) (E : List Bool) (Rs : List Row) => (⟨24, 1, A1, n1, c1, vals, false⟩ :: ⟨4, 1, (some ⟨g_1, 0, none⟩), p.length, p.length, bools E, false⟩ :: Rs)) (fun (i : Int) (A1 : Option Addr) (n1 : Nat) (c1 : Nat) (vals : List Value) (ls : List (List Int)) (E : List Bool) (Rs : List Row) => (0 ≤ i) ∧ (i ≤ p.length) ∧ (n1 = vals.length) ∧ (SlR .i64 Rs vals ls) ∧ (cycK p i.toNat = (E, ls))) (fun (i : Int) (A1 : Option Addr) (n1 : Nat) (c1 : Nat) (vals : List Value) (ls : List (List Int)) (E : List Bool) (Rs : List Row) => (p.length - i).toNat) ?_ ?_
 ·
  exact ⟨0, some ⟨g_3, 0, none⟩, 0, 0, [], [], List.replicate p.length false, [], ⟨(by omega), (by omega), (rfl), (SlR.nil _), (rfl)⟩, (sc rfl (sc rfl (sc rfl (sc rfl (sc rfl Sub.nil))))), fun _ h => h⟩
 intro i A1 n1 c1 vals ls E Rs ⟨hi0, hi1, hn1, hsl, hcy⟩
 have hEl : E.length = p.length := by have h := (cycK_facts hp i.toNat (by omega)).1; rw [hcy] at h; exact h
 have hfew : vals.length ≤ i.toNat := by have h := cycK_few p i.toNat; rw [hcy] at h; rw [hsl.1]; exact h
 refine wq <| wL rfl rfl rfl <| wr_nil <| w_seq <| w_if rfl (fun hc1 => ?_) (fun hc1 => ?_)
 ·
  refine w_skip <| w_seq <| w_block <| wq <| wm rfl rfl <| wg rfl rfl <| wr_nil <| wq <| wr_sub (R1 := (⟨3, 1, none, 0, 0, ints .i64 ([]), false⟩ :: ⟨24, 1, A1, n1, c1, vals, false⟩ :: ⟨4, 1, (some ⟨g_1, 0, none⟩), p.length, p.length, bools E, false⟩ :: Rs)) (Sub.refl _) (fun _ h => h.nil 3 1) <| wg rfl rfl <| wr_nil <| w_seq <| w_seq ?_
  refine w_reg <| wm rfl rfl <| wg rfl rfl <| wr_nil <| w_block ?_
  refine w_loop7 (fun (k : Int) (A2 : Option Addr) (n2 : Nat) (c2 : Nat) (acc : List Int) (E2 : List Bool) (f : Nat) => [(0, .slice A_p p.length c_p), (4, .slice (some ⟨g_1, 0, none⟩) p.length p.length), (5, .slice A1 n1 c1), (7, .slice A2 n2 c2), (8, .int .i64 k), (17, .int .i64 ((p.length : Nat) : Int)), (18, .int .i64 i)]) (fun (k : Int) (A2 : Option Addr) (n2 : Nat) (c2 : Nat) (acc : List Int) (E2 : List Bool) (f : Nat) => (⟨3, 1, A2, n2, c2, ints .i64 acc, false⟩ :: ⟨24, 1, A1, n1, c1, vals, false⟩ :: ⟨4, 1, (some ⟨g_1, 0, none⟩), p.length, p.length, bools E2, false⟩ :: Rs)) (fun (k : Int) (A2 : Option Addr) (n2 : Nat) (c2 : Nat) (acc : List Int) (E2 : List Bool) (f : Nat) => (0 ≤ k) ∧ (k < p.length) ∧ (n2 = acc.length) ∧ (E2.length = p.length) ∧ (cntF E2 ≤ f) ∧ ((acc ++ (walkC p f E2 k).1, (walkC p f E2 k).2) = walkC p p.length E i)) (fun (k : Int) (A2 : Option Addr) (n2 : Nat) (c2 : Nat) (acc : List Int) (E2 : List Bool) (f : Nat) => f) ?_ ?_
  ·
   exact ⟨i, none, 0, 0, [], E, p.length, ⟨(by omega), (by omega), (rfl), (hEl), (by have : cntF E ≤ E.length := List.countP_le_length; omega), (rfl)⟩, (sc rfl (sc rfl (sc rfl (sc rfl (sc rfl (sc rfl (sc rfl Sub.nil))))))), fun _ h => h⟩
  intro k A2 n2 c2 acc E2 f ⟨hk0, hk1, hn2, hE2l, hf, hw⟩
  have hal := walk_bound hp hEl hi0 (by omega) hw
  refine w_seq <| wq <| wm rfl rfl <| wm rfl rfl <| wr_y rfl (y_index1 underlying101 sz4 rfl rfl (rdr 2 rfl) (by omega) (by omega)) <| wr_y rfl (y_ldB underlying4 rfl rfl (rdr 2 rfl) (by omega) (by omega)) <| wr_y rfl (y_notD rfl) <| wr_nil <| w_if rfl (fun hc2 => ?_) (fun hc2 => ?_)
  ·
   have hgo := walkC_go (p := p) hk0 (by omega) hf hc2
   have hup := cntF_upd hk0 (by omega) hc2
   have hpos := cntF_pos hk0 (by omega) hc2
   have hpk := mem_iota.1 (hp.subset (rd_mem (L := p) hk0 hk1))
   refine w_skip <| w_seq <| w_block <| wq <| wm rfl rfl <| wm rfl rfl <| wr_y rfl (y_index1 underlying101 sz4 rfl rfl (rdr 2 rfl) (by omega) (by omega)) <| wr_n (a_storeB 2 rfl sz4 rfl rfl (by omega) (by omega)) ?_
   rintro _ _ rfl
   refine wr_rows (R1 := (⟨3, 1, A2, n2, c2, ints .i64 acc, false⟩ :: ⟨24, 1, A1, n1, c1, vals, false⟩ :: ⟨4, 1, (some ⟨g_1, 0, none⟩), p.length, p.length, bools (updB E2 k true), false⟩ :: Rs)) rfl <| wr_nil <| w_reg <| wm rfl rfl <| wm rfl rfl <| wr_a rfl (a_litI .i64 [k] underlying24 zs3 rfl rfl rfl) ?_
   rintro _ _ ⟨g_6, rfl, rfl⟩
   refine wr_a rfl (a_appendI 1 rfl underlying24 zb3 rfl rfl rfl (rdr 0 rfl) (by omega)) ?_
   rintro _ _ ⟨A_7, c_8, rfl, rfl⟩
   refine wr_rows (R1 := (⟨3, 1, (some ⟨g_6, 0, none⟩), 1, 1, ints .i64 ([k]), false⟩ :: ⟨3, 1, A_7, (n2 + 1), c_8, ints .i64 (acc ++ ([k])), false⟩ :: ⟨24, 1, A1, n1, c1, vals, false⟩ :: ⟨4, 1, (some ⟨g_1, 0, none⟩), p.length, p.length, bools (updB E2 k true), false⟩ :: Rs)) rfl <| wr_as (v := .slice A_7 (n2 + 1) c_8) rfl <| wg rfl rfl <| wr_nil <| w_reg <| wm rfl rfl <| wm rfl rfl <| wr_y rfl (y_index1 underlying24 sz3 rfl rfl (h_p.c _) (by omega) (by omega)) <| wr_y rfl (y_ldI underlying3 rfl rfl (h_p.c _) (by omega) (by omega)) <| wg rfl rfl <| wr_nil ?_
   exact ⟨rd p k, A_7, n2 + 1, c_8, acc ++ ([k]), updB E2 k true, (f - 1), ⟨(by omega), (by omega), (by rw [List.length_append, hn2]; rfl), (by rw [updB_len]; exact hE2l), (by omega), (by rw [← hw, hgo]; simp only [List.append_assoc, List.singleton_append])⟩, (by omega), (sc rfl (sc rfl (sc rfl (sc rfl (sc rfl (sc rfl (sc rfl Sub.nil))))))), fun _ h => h.selR (F := [_, _, _, _]) (F' := [_, _, _]) [1, 2, 3] (by decide) rfl⟩
  ·
   have hse : walkC p p.length E i = (acc, E2) := by rw [← hw, walkC_seen (Decidable.not_not.1 hc2), List.append_nil]
   refine w_exit <| wq <| wm rfl rfl <| wr_y rfl (y_len underlying24 rfl) <| wr_y rfl (y_gt rfl rfl) <| wr_nil <| w_if rfl (fun hc3 => ?_) (fun hc3 => ?_)
   ·
    refine w_reg <| wm rfl rfl <| wm rfl rfl <| wr_a rfl (a_lit [Value.slice A2 n2 c2] underlying59 zs24 rfl rfl rfl rfl) ?_
    rintro _ _ ⟨g_10, rfl, rfl⟩
    refine wr_a rfl (a_append 2 rfl rfl underlying59 zb24 rfl rfl rfl rfl rfl (rdr 0 rfl) (by simp [Value.oneCell']) (by dsimp only; omega)) ?_
    rintro _ _ ⟨A_11, c_12, rfl, rfl⟩
    refine wr_rows (R1 := (⟨24, 1, (some ⟨g_10, 0, none⟩), 1, 1, [Value.slice A2 n2 c2], false⟩ :: ⟨3, 1, A2, n2, c2, ints .i64 acc, false⟩ :: ⟨24, 1, A_11, (n1 + 1), c_12, vals ++ ([Value.slice A2 n2 c2]), false⟩ :: ⟨4, 1, (some ⟨g_1, 0, none⟩), p.length, p.length, bools E2, false⟩ :: Rs)) rfl <| wr_as (v := .slice A_11 (n1 + 1) c_12) rfl <| wg rfl rfl <| wr_nil <| w_reg <| wA rfl rfl rfl (by omega) <| wm rfl rfl <| wr_nil ?_
    exact ⟨i + 1, A_11, n1 + 1, c_12, vals ++ ([Value.slice A2 n2 c2]), (ls ++ [acc]), E2, (⟨3, 1, A2, n2, c2, ints .i64 acc, false⟩ :: Rs), ⟨(by omega), (by omega), (by rw [List.length_append, hn1]; rfl), (hsl.snoc hn2), (cyc_yes hi0 hcy hse (fun e => by rw [e] at hn2; simp at hn2; omega))⟩, (by omega), (sc rfl (sc rfl (sc rfl (sc rfl (sc rfl Sub.nil))))), fun _ h => h.selR (F := [_, _, _, _]) (F' := [_, _, _]) [2, 3, 1] (by decide) rfl⟩
   ·
    refine w_skip <| w_reg <| wA rfl rfl rfl (by omega) <| wm rfl rfl <| wr_nil ?_
    exact ⟨i + 1, A1, n1, c1, vals, ls, E2, Rs, ⟨(by omega), (by omega), (hn1), (hsl), (cyc_no hi0 hcy hse (List.eq_nil_of_length_eq_zero (by omega)))⟩, (by omega), (sc rfl (sc rfl (sc rfl (sc rfl (sc rfl Sub.nil))))), fun _ h => h.selR (F := [_, _, _]) (F' := [_, _]) [1, 2] (by decide) rfl⟩
 ·
  refine w_exit <| wq <| wm rfl rfl <| wg rfl rfl <| wg rfl rfl <| wr_nil <| w_retR (R1 := (⟨24, 1, A1, n1, c1, vals, false⟩ :: Rs)) (fun _ h => h.selR (F := [_, _]) (F' := [_]) [0] (by decide) rfl) ?_
  refine ⟨_, _, rfl, rfl, ?_⟩
  obtain rfl : ls = cycL p := by unfold cycL; rw [← show i.toNat = p.length by omega, hcy]
  subst hn1
  exact ⟨_, _, vals, Rs, rfl, hsl, rfl⟩

end Go.Proofs.YtdfcnalkdlifiaaGreat

/-! ## F7 -/
namespace Go.Proofs.YtdfcnalkdlifiaaGreat
open Go Go.Eng Go.Pure
open Tryz
set_option linter.unusedVariables false
set_option maxRecDepth 100000 in
theorem cloneP_ct {w : World} {A_l : Option Addr} {n_l c_l : Nat} {l : List (Int × Int)} (h_l : Rd w A_l n_l c_l 2 (prs l)) (hN : l.length ≤ 1000000) :
  Ct Tryz.prog 34 #[.slice A_l n_l c_l] w.heap.size w [] (fun v R' => ∃ A c, v = .slice A l.length c ∧ R' = [⟨45, 2, A, l.length, c, prs l, false⟩]) := by
 obtain rfl : n_l = l.length := by have := h_l.len; rw [prs_length] at this; omega
 refine fn1 Tryz.func34 rfl rfl rfl ?_
 refine wq <| wg rfl rfl <| wr_nil <| w_seq <| wq <| wm rfl rfl <| wr_y rfl (y_slNil underlying43 rfl rfl) <| wr_nil <| w_cond rfl (fun hc1 => ?_) (fun hc1 => ?_)
 ·
  refine wq <| wg rfl rfl <| wr_nil <| w_retR (R1 := [⟨45, 2, none, 0, 0, prs [], false⟩]) (fun _ h => h.nilP 45) ?_
  refine ⟨_, rfl, ?_⟩
  have hA : A_l = none := by simpa using hc1
  subst hA
  obtain rfl := prs_none h_l
  exact ⟨none, 0, rfl, rfl⟩
 ·
  refine w_skip <| wq <| wr_a rfl (a_litP0 underlying43 zs45) ?_
  rintro _ _ ⟨g_2, rfl, rfl⟩
  refine wm rfl rfl <| wr_a rfl (a_appendP 0 rfl underlying43 zb45 rfl rfl rfl rfl (h_l.c _) (by omega)) ?_
  rintro _ _ ⟨A_3, c_4, rfl, rfl⟩
  refine wr_rows (R1 := [⟨45, 2, A_3, (0 + l.length), c_4, prs (([]) ++ l), false⟩]) rfl <| wr_as (v := .slice A_3 (0 + l.length) c_4) rfl <| wg rfl rfl <| wr_nil <| w_retR (R1 := [⟨45, 2, A_3, (0 + l.length), c_4, prs (([]) ++ l), false⟩]) (fun _ h => h) ?_
  refine ⟨_, rfl, ?_⟩
  simp only [Nat.zero_add, List.nil_append]
  exact ⟨_, _, rfl, rfl⟩

set_option maxRecDepth 100000 in
theorem turns_ct {w : World} {A_ws : Option Addr} {n_ws c_ws : Nat} {vals_ws : List Value} {ws : List (List Int)} (h_ws : Rd w A_ws n_ws c_ws 1 vals_ws) (s_ws : SlW .u8 w vals_ws ws) (hN : ws.flatten.length ≤ 400000 ∧ ws.length ≤ 1000000) :
  Ct Tryz.prog 19 #[.slice A_ws n_ws c_ws] w.heap.size w [] (fun v R' => ∃ (l : List (Int × Int)) (A : Option Addr) (c : Nat), v = .slice A l.length c ∧ l.Perm (tlist ws ws.length) ∧ l.Pairwise (ordO ws) ∧ R' = [⟨45, 2, A, l.length, c, prs l, false⟩]) := by
 obtain rfl : n_ws = ws.length := by have := h_ws.len; have := s_ws.1; omega
 refine fn1 Tryz.func19 rfl rfl rfl ?_
 have m_ws := h_ws.max
 have hfl := hN.1
 refine wq <| wg rfl rfl <| wr_nil <| wq <| wm rfl rfl <| wr_y rfl (y_build (v := .agg #[.slice A_ws ws.length c_ws, .slice none 0 0, .slice none 0 0, .slice none 0 0]) rfl (fun w => by kernel_rfl)) <| wr_a rfl (a_box (sz := 4) rfl rfl) ?_
 rintro _ _ ⟨g_1, rfl, rfl⟩
 refine wr_sub (R1 := [⟨45, 2, none, 0, 0, prs ([]), false⟩, ⟨3, 1, none, 0, 0, ints .i64 ([]), false⟩, ⟨3, 1, none, 0, 0, ints .i64 ([]), false⟩, ⟨67, 4, (some ⟨g_1, 0, none⟩), 1, 1, [.slice A_ws ws.length c_ws, .slice none 0 0, .slice none 0 0, .slice none 0 0], false⟩]) (Sub.refl _) (fun _ h => ((h.nil 3 1).nil 3 1).nilP 45) <| wg rfl rfl <| wr_nil <| wq <| wg rfl rfl <| wr_nil <| w_seq <| wq <| wm rfl rfl <| wr_y rfl (y_len underlying22 rfl) <| wm rfl rfl <| wr_nil <| w_block ?_
 refine w_loop14 (fun (k : Int) (lg : Int) (A1 : Option Addr) (n1 : Nat) (c1 : Nat) (T : List (Int × Int)) (A2 : Option Addr) (n2 : Nat) (c2 : Nat) (Bs : List Int) (A3 : Option Addr) (n3 : Nat) (c3 : Nat) (Rs : List Int) => [(3, .pointer (some ⟨g_1, 0, none⟩)), (4, .int .i64 lg), (16, .slice A_ws ws.length c_ws), (17, .int .i64 ((ws.length : Nat) : Int)), (18, .int .i64 k)]) (fun (k : Int) (lg : Int) (A1 : Option Addr) (n1 : Nat) (c1 : Nat) (T : List (Int × Int)) (A2 : Option Addr) (n2 : Nat) (c2 : Nat) (Bs : List Int) (A3 : Option Addr) (n3 : Nat) (c3 : Nat) (Rs : List Int) => [⟨45, 2, A1, n1, c1, prs T, false⟩, ⟨3, 1, A2, n2, c2, ints .i64 Bs, false⟩, ⟨3, 1, A3, n3, c3, ints .i64 Rs, false⟩, ⟨67, 4, (some ⟨g_1, 0, none⟩), 1, 1, [.slice A_ws ws.length c_ws, .slice A1 n1 c1, .slice A2 n2 c2, .slice A3 n3 c3], false⟩]) (fun (k : Int) (lg : Int) (A1 : Option Addr) (n1 : Nat) (c1 : Nat) (T : List (Int × Int)) (A2 : Option Addr) (n2 : Nat) (c2 : Nat) (Bs : List Int) (A3 : Option Addr) (n3 : Nat) (c3 : Nat) (Rs : List Int) => (0 ≤ k) ∧ (k ≤ ws.length) ∧ (0 ≤ lg ∧ lg ≤ 400000) ∧ (∀ w : Int, 0 ≤ w → w < k → ((rdl ws w).length : Int) ≤ lg) ∧ (lg = 0 ∧ offs ws k.toNat = 0 ∨ 0 < lg ∧ 0 < offs ws k.toNat) ∧ (T = tlist ws k.toNat) ∧ (n1 = offs ws k.toNat) ∧ (Bs = blist ws k.toNat) ∧ (n2 = k.toNat) ∧ (Rs = (ws.take k.toNat).flatten) ∧ (n3 = offs ws k.toNat)) (fun (k : Int) (lg : Int) (A1 : Option Addr) (n1 : Nat) (c1 : Nat) (T : List (Int × Int)) (A2 : Option Addr) (n2 : Nat) (c2 : Nat) (Bs : List Int) (A3 : Option Addr) (n3 : Nat) (c3 : Nat) (Rs : List Int) => (ws.length - k).toNat) ?_ ?_
 ·
  exact ⟨0, 0, none, 0, 0, [], none, 0, 0, [], none, 0, 0, [], ⟨(by omega), (by omega), (by omega), (fun w h0 h1 => by omega), (.inl ⟨rfl, rfl⟩), (rfl), (rfl), (rfl), (rfl), (rfl), (rfl)⟩, (sc rfl (sc rfl (sc rfl (sc rfl (sc rfl Sub.nil))))), fun _ h => h⟩
 intro k lg A1 n1 c1 T A2 n2 c2 Bs A3 n3 c3 Rs ⟨hk0, hk1, hg0, hlg, hge, hT, hnT, hBs, hnB, hRs, hnR⟩
 refine wq <| wL rfl rfl rfl <| wr_nil <| w_seq <| w_if rfl (fun hc1 => ?_) (fun hc1 => ?_)
 ·
  have hofs := offs_succ hk0 (show k < ws.length by omega)
  have hole := offs_le ws (k + 1).toNat
  refine w_skip <| w_seq <| w_block <| wq <| wm rfl rfl <| wr_y rfl (y_index1 underlying22 sz23 rfl rfl (h_ws.c _) (by omega) (by omega)) ?_
  obtain ⟨A_2, c_3, hv_4, hr_5, hb_6, mhr_5⟩ := s_ws.at (i := k) (by omega) (by omega)
  refine wr_y rfl (y_ld underlying23 rfl rfl rfl (h_ws.c _) hv_4) <| wg rfl rfl <| wg rfl rfl <| wr_nil <| w_seq <| w_regd mixed <| wd_y 0 rfl (by kernel_rfl) rfl (y_move rfl) <| wd_y 1 rfl (by kernel_rfl) rfl (y_move rfl) <| wd_y 2 rfl (by kernel_rfl) rfl (y_nilCheck rfl) <| wd_y 3 rfl (by kernel_rfl) rfl (y_fieldAt (off := 2) (m := 2) underlying67 rfl sz24 rfl rfl rfl) <| wd_y 4 rfl (by kernel_rfl) rfl (y_ldIn (rdR 3 (r := ⟨67, 4, (some ⟨g_1, 0, none⟩), 1, 1, [.slice A_ws ws.length c_ws, .slice A1 n1 c1, .slice A2 n2 c2, .slice A3 n3 c3], false⟩) rfl) underlying24 rfl rfl rfl) <| wd_y 5 rfl (by kernel_rfl) rfl (y_move rfl) <| wd_y 6 rfl (by kernel_rfl) rfl (y_nilCheck rfl) <| wd_y 7 rfl (by kernel_rfl) rfl (y_fieldAt (off := 1) (m := 1) underlying67 rfl sz43 rfl rfl rfl) <| wd_y 8 rfl (by kernel_rfl) rfl (y_ldIn (rdR 3 (r := ⟨67, 4, (some ⟨g_1, 0, none⟩), 1, 1, [.slice A_ws ws.length c_ws, .slice A1 n1 c1, .slice A2 n2 c2, .slice A3 n3 c3], false⟩) rfl) underlying43 rfl rfl rfl) ?_
  refine wd_y 9 rfl (by kernel_rfl) rfl (y_len underlying43 rfl) <| wd_a 10 rfl (by kernel_rfl) rfl (a_litI .i64 [((n1 : Nat) : Int)] underlying24 zs3 rfl rfl rfl) ?_
  rintro _ _ ⟨g_8, rfl, rfl⟩
  refine ⟨.inr fun _ h => h.right (R' := [_]), ?_⟩
  refine wd_a 11 rfl (by kernel_rfl) rfl (a_appendI 2 rfl underlying24 zb3 rfl rfl rfl (rdr 0 rfl) (by omega)) ?_
  rintro _ _ ⟨A_9, c_10, rfl, rfl⟩
  refine ⟨.inl (by kernel_rfl), ?_⟩
  refine wd_rows (R1 := [⟨3, 1, (some ⟨g_8, 0, none⟩), 1, 1, ints .i64 ([((n1 : Nat) : Int)]), false⟩, ⟨45, 2, A1, n1, c1, prs T, false⟩, ⟨3, 1, A_9, (n2 + 1), c_10, ints .i64 (Bs ++ ([((n1 : Nat) : Int)])), false⟩, ⟨3, 1, A3, n3, c3, ints .i64 Rs, false⟩, ⟨67, 4, (some ⟨g_1, 0, none⟩), 1, 1, [.slice A_ws ws.length c_ws, .slice A1 n1 c1, .slice A2 n2 c2, .slice A3 n3 c3], false⟩]) rfl <| wd_as (v := .slice A_9 (n2 + 1) c_10) rfl <| wd_y 12 rfl (by kernel_rfl) rfl (y_nilCheck rfl) <| wd_y 13 rfl (by kernel_rfl) rfl (y_fieldAt (off := 2) (m := 2) underlying67 rfl sz24 rfl rfl rfl) <| wd_n 14 rfl (by kernel_rfl) (a_storeAt 4 rfl rfl rfl sz24 rfl rfl rfl rfl (Nat.le_of_ble_eq_true rfl)) ?_
  rintro _ _ rfl
  refine ⟨.inl (by kernel_rfl), ?_⟩
  refine wd_rows (R1 := [⟨3, 1, (some ⟨g_8, 0, none⟩), 1, 1, ints .i64 ([((n1 : Nat) : Int)]), false⟩, ⟨45, 2, A1, n1, c1, prs T, false⟩, ⟨3, 1, A_9, (n2 + 1), c_10, ints .i64 (Bs ++ ([((n1 : Nat) : Int)])), false⟩, ⟨3, 1, A3, n3, c3, ints .i64 Rs, false⟩, ⟨67, 4, (some ⟨g_1, 0, none⟩), 1, 1, [.slice A_ws ws.length c_ws, .slice A1 n1 c1, .slice A_9 (n2 + 1) c_10, .slice A3 n3 c3], false⟩]) rfl <| wd_nil (by kernel_rfl) <| wq <| wm rfl rfl <| wm rfl rfl <| wr_y rfl (y_len underlying23 rfl) <| wr_y rfl (y_max rfl rfl) <| wg rfl rfl <| wr_nil <| wq <| wm rfl rfl <| wr_y rfl (y_len underlying23 rfl) <| wm rfl rfl ?_
  refine wr_nil <| w_block ?_
  refine w_loop9 (fun (j : Int) (B1 : Option Addr) (m1 : Nat) (d1 : Nat) (U : List (Int × Int)) (B3 : Option Addr) (m3 : Nat) (d3 : Nat) (V : List Int) => [(3, .pointer (some ⟨g_1, 0, none⟩)), (4, .int .i64 (max lg (((rdl ws k).length : Nat) : Int))), (5, .int .i64 k), (16, .slice A_ws ws.length c_ws), (17, .int .i64 ((ws.length : Nat) : Int)), (18, .int .i64 k), (41, .slice A_2 ((rdl ws k).length) c_3), (42, .int .i64 (((rdl ws k).length : Nat) : Int)), (43, .int .i64 j)]) (fun (j : Int) (B1 : Option Addr) (m1 : Nat) (d1 : Nat) (U : List (Int × Int)) (B3 : Option Addr) (m3 : Nat) (d3 : Nat) (V : List Int) => [⟨3, 1, (some ⟨g_8, 0, none⟩), 1, 1, ints .i64 ([((n1 : Nat) : Int)]), false⟩, ⟨45, 2, B1, m1, d1, prs U, false⟩, ⟨3, 1, A_9, (n2 + 1), c_10, ints .i64 (Bs ++ ([((n1 : Nat) : Int)])), false⟩, ⟨3, 1, B3, m3, d3, ints .i64 V, false⟩, ⟨67, 4, (some ⟨g_1, 0, none⟩), 1, 1, [.slice A_ws ws.length c_ws, .slice B1 m1 d1, .slice A_9 (n2 + 1) c_10, .slice B3 m3 d3], false⟩]) (fun (j : Int) (B1 : Option Addr) (m1 : Nat) (d1 : Nat) (U : List (Int × Int)) (B3 : Option Addr) (m3 : Nat) (d3 : Nat) (V : List Int) => (0 ≤ j) ∧ (j ≤ (rdl ws k).length) ∧ (U = tlist ws k.toNat ++ turnsOf k j.toNat) ∧ (m1 = offs ws k.toNat + j.toNat) ∧ (V = (ws.take k.toNat).flatten ++ (rdl ws k).take j.toNat) ∧ (m3 = offs ws k.toNat + j.toNat)) (fun (j : Int) (B1 : Option Addr) (m1 : Nat) (d1 : Nat) (U : List (Int × Int)) (B3 : Option Addr) (m3 : Nat) (d3 : Nat) (V : List Int) => ((rdl ws k).length - j).toNat) ?_ ?_
  ·
   exact ⟨0, A1, n1, c1, T, A3, n3, c3, Rs, ⟨(by omega), (by omega), (by rw [hT]; exact (List.append_nil _).symm), (hnT), (by rw [hRs]; exact (List.append_nil _).symm), (hnR)⟩, (sc rfl (sc rfl (sc rfl (sc rfl (sc rfl (sc rfl (sc rfl (sc rfl (sc rfl Sub.nil))))))))), fun _ h => h⟩
  intro j B1 m1 d1 U B3 m3 d3 V ⟨hj0, hj1, hU, hm1, hV, hm3⟩
  refine wq <| wL rfl rfl rfl <| wr_nil <| w_seq <| w_if rfl (fun hc2 => ?_) (fun hc2 => ?_)
  ·
   refine w_skip <| w_seq <| w_block <| wq <| wm rfl rfl <| wr_y rfl (y_index1 underlying23 sz5 rfl rfl (hr_5.c _) (by omega) (by omega)) <| wr_y rfl (y_ldI underlying5 rfl rfl (hr_5.c _) (by omega) (by omega)) <| wg rfl rfl <| wg rfl rfl <| wr_nil <| wq <| wm rfl rfl <| wm rfl rfl ?_
   refine wr_y rfl (y_nilCheck rfl) <| wr_y rfl (y_fieldAt (off := 1) (m := 1) underlying67 rfl sz43 rfl rfl rfl) <| wr_y rfl (y_ldIn (rdR 4 (r := ⟨67, 4, (some ⟨g_1, 0, none⟩), 1, 1, [.slice A_ws ws.length c_ws, .slice B1 m1 d1, .slice A_9 (n2 + 1) c_10, .slice B3 m3 d3], false⟩) rfl) underlying43 rfl rfl rfl) <| wm rfl rfl <| wm rfl rfl <| wr_y rfl (y_build (v := .agg #[.int .i64 k, .int .i64 j]) rfl (fun w => by kernel_rfl)) <| wr_a rfl (a_litP underlying43 zs45 rfl) ?_
   rintro _ _ ⟨g_12, rfl, rfl⟩
   refine wr_a rfl (a_appendP 2 rfl underlying43 zb45 rfl rfl rfl rfl (rdr 0 rfl) (by omega)) ?_
   rintro _ _ ⟨A_13, c_14, rfl, rfl⟩
   refine wr_rows (R1 := [⟨45, 2, (some ⟨g_12, 0, none⟩), 1, 1, prs ([(k, j)]), false⟩, ⟨3, 1, (some ⟨g_8, 0, none⟩), 1, 1, ints .i64 ([((n1 : Nat) : Int)]), false⟩, ⟨45, 2, A_13, (m1 + 1), c_14, prs (U ++ ([(k, j)])), false⟩, ⟨3, 1, A_9, (n2 + 1), c_10, ints .i64 (Bs ++ ([((n1 : Nat) : Int)])), false⟩, ⟨3, 1, B3, m3, d3, ints .i64 V, false⟩, ⟨67, 4, (some ⟨g_1, 0, none⟩), 1, 1, [.slice A_ws ws.length c_ws, .slice B1 m1 d1, .slice A_9 (n2 + 1) c_10, .slice B3 m3 d3], false⟩]) rfl <| wr_as (v := .slice A_13 (m1 + 1) c_14) rfl <| wr_y rfl (y_nilCheck rfl) <| wr_y rfl (y_fieldAt (off := 1) (m := 1) underlying67 rfl sz43 rfl rfl rfl) <| wr_n (a_storeAt 5 rfl rfl rfl sz43 rfl rfl rfl rfl (Nat.le_of_ble_eq_true rfl)) ?_
   rintro _ _ rfl
   refine wr_rows (R1 := [⟨45, 2, (some ⟨g_12, 0, none⟩), 1, 1, prs ([(k, j)]), false⟩, ⟨3, 1, (some ⟨g_8, 0, none⟩), 1, 1, ints .i64 ([((n1 : Nat) : Int)]), false⟩, ⟨45, 2, A_13, (m1 + 1), c_14, prs (U ++ ([(k, j)])), false⟩, ⟨3, 1, A_9, (n2 + 1), c_10, ints .i64 (Bs ++ ([((n1 : Nat) : Int)])), false⟩, ⟨3, 1, B3, m3, d3, ints .i64 V, false⟩, ⟨67, 4, (some ⟨g_1, 0, none⟩), 1, 1, [.slice A_ws ws.length c_ws, .slice A_13 (m1 + 1) c_14, .slice A_9 (n2 + 1) c_10, .slice B3 m3 d3], false⟩]) rfl <| wr_nil <| w_reg <| wm rfl rfl <| wm rfl rfl <| wr_y rfl (y_nilCheck rfl) <| wr_y rfl (y_fieldAt (off := 3) (m := 3) underlying67 rfl sz24 rfl rfl rfl) <| wr_y rfl (y_ldIn (rdR 5 (r := ⟨67, 4, (some ⟨g_1, 0, none⟩), 1, 1, [.slice A_ws ws.length c_ws, .slice A_13 (m1 + 1) c_14, .slice A_9 (n2 + 1) c_10, .slice B3 m3 d3], false⟩) rfl) underlying24 rfl rfl rfl) <| wm rfl rfl <| wr_y rfl (y_convI underlying5 underlying3 rfl (by have hby := (byteL_wf (by assumption : ∀ x ∈ rdl ws k, (Lit.int .u8 x).wf = true)).rd j; omega)) ?_
   refine wr_a rfl (a_litI .i64 [rd (rdl ws k) j] underlying24 zs3 rfl rfl rfl) ?_
   rintro _ _ ⟨g_16, rfl, rfl⟩
   refine wr_a rfl (a_appendI 5 rfl underlying24 zb3 rfl rfl rfl (rdr 0 rfl) (by omega)) ?_
   rintro _ _ ⟨A_17, c_18, rfl, rfl⟩
   refine wr_rows (R1 := [⟨3, 1, (some ⟨g_16, 0, none⟩), 1, 1, ints .i64 ([rd (rdl ws k) j]), false⟩, ⟨45, 2, (some ⟨g_12, 0, none⟩), 1, 1, prs ([(k, j)]), false⟩, ⟨3, 1, (some ⟨g_8, 0, none⟩), 1, 1, ints .i64 ([((n1 : Nat) : Int)]), false⟩, ⟨45, 2, A_13, (m1 + 1), c_14, prs (U ++ ([(k, j)])), false⟩, ⟨3, 1, A_9, (n2 + 1), c_10, ints .i64 (Bs ++ ([((n1 : Nat) : Int)])), false⟩, ⟨3, 1, A_17, (m3 + 1), c_18, ints .i64 (V ++ ([rd (rdl ws k) j])), false⟩, ⟨67, 4, (some ⟨g_1, 0, none⟩), 1, 1, [.slice A_ws ws.length c_ws, .slice A_13 (m1 + 1) c_14, .slice A_9 (n2 + 1) c_10, .slice B3 m3 d3], false⟩]) rfl <| wr_as (v := .slice A_17 (m3 + 1) c_18) rfl <| wr_y rfl (y_nilCheck rfl) <| wr_y rfl (y_fieldAt (off := 3) (m := 3) underlying67 rfl sz24 rfl rfl rfl) <| wr_n (a_storeAt 6 rfl rfl rfl sz24 rfl rfl rfl rfl (Nat.le_of_ble_eq_true rfl)) ?_
   rintro _ _ rfl
   refine wr_rows (R1 := [⟨3, 1, (some ⟨g_16, 0, none⟩), 1, 1, ints .i64 ([rd (rdl ws k) j]), false⟩, ⟨45, 2, (some ⟨g_12, 0, none⟩), 1, 1, prs ([(k, j)]), false⟩, ⟨3, 1, (some ⟨g_8, 0, none⟩), 1, 1, ints .i64 ([((n1 : Nat) : Int)]), false⟩, ⟨45, 2, A_13, (m1 + 1), c_14, prs (U ++ ([(k, j)])), false⟩, ⟨3, 1, A_9, (n2 + 1), c_10, ints .i64 (Bs ++ ([((n1 : Nat) : Int)])), false⟩, ⟨3, 1, A_17, (m3 + 1), c_18, ints .i64 (V ++ ([rd (rdl ws k) j])), false⟩, ⟨67, 4, (some ⟨g_1, 0, none⟩), 1, 1, [.slice A_ws ws.length c_ws, .slice A_13 (m1 + 1) c_14, .slice A_9 (n2 + 1) c_10, .slice A_17 (m3 + 1) c_18], false⟩]) rfl <| wr_nil <| w_reg <| wA rfl rfl rfl (by omega) <| wm rfl rfl <| wr_nil ?_
   exact ⟨j + 1, A_13, (m1 + 1), c_14, U ++ ([(k, j)]), A_17, (m3 + 1), c_18, V ++ ([rd (rdl ws k) j]), ⟨(by omega), (by omega), (by rw [hU, turnsOf_succ k hj0, List.append_assoc]), (by omega), (by rw [hV, List.append_assoc, take_rd hj0 (by omega)]), (by omega)⟩, (by omega), (sc rfl (sc rfl (sc rfl (sc rfl (sc rfl (sc rfl (sc rfl (sc rfl (sc rfl Sub.nil))))))))), fun _ h => h.sel [2, 3, 4, 5, 6] (by decide) rfl⟩
  ·
   refine w_exit <| w_reg <| wA rfl rfl rfl (by omega) <| wm rfl rfl <| wr_nil ?_
   exact ⟨k + 1, max lg (((rdl ws k).length : Nat) : Int), B1, m1, d1, U, A_9, (n2 + 1), c_10, Bs ++ ([((n1 : Nat) : Int)]), B3, m3, d3, V, ⟨(by omega), (by omega), (by omega), (fun w h0 h1 => by
      by_cases hw : w = k
      ·rw [hw]; omega
      ·have := hlg w h0 (by omega); omega), (by have hofs := offs_succ hk0 (show k < ws.length by omega); omega), (by have hj : j.toNat = (rdl ws k).length := (by omega); rw [hU, hj, tlist_succ hk0]), (by rw [hm1, offs_succ hk0 (by omega)]; omega), (by rw [hBs, blist_succ hk0, hnT]), (by omega), (by have hj : j.toNat = (rdl ws k).length := (by omega); rw [hV, hj, List.take_length, flat_take_succ hk0 (by omega)]), (by rw [hm3, offs_succ hk0 (by omega)]; omega)⟩, (by omega), (sc rfl (sc rfl (sc rfl (sc rfl (sc rfl Sub.nil))))), fun _ h => h.sel [1, 2, 3, 4] (by decide) rfl⟩
 ·
  have hke : k = ws.length := by omega
  have hkn : k.toNat = ws.length := by omega
  rw [hkn] at hT hBs hRs hnT hnB hnR hge
  rw [List.take_length] at hRs
  have hoT := tlist_len ws ws.length (Nat.le_refl _)
  have hoB := blist_len ws ws.length
  have hoR : offs ws ws.length = ws.flatten.length := by unfold offs; rw [List.take_length]
  obtain rfl : n1 = T.length := by rw [hT]; omega
  obtain rfl : n2 = Bs.length := by rw [hBs]; omega
  obtain rfl : n3 = Rs.length := by rw [hRs]; omega
  have hTl : T.length ≤ 1000000 := by rw [hT]; omega
  refine w_exit <| wq <| wm rfl rfl <| wr_y rfl (y_nilCheck rfl) <| wr_y rfl (y_fieldAt (off := 1) (m := 1) underlying67 rfl sz43 rfl rfl rfl) <| wr_y rfl (y_ldIn (rdR 3 (r := ⟨67, 4, (some ⟨g_1, 0, none⟩), 1, 1, [.slice A_ws ws.length c_ws, .slice A1 T.length c1, .slice A2 Bs.length c2, .slice A3 Rs.length c3], false⟩) rfl) underlying43 rfl rfl rfl) <| wr_a rfl (a_callF en34 rfl (Ct.fresh (fun w hw => cloneP_ct ((rdr 0 rfl) w hw) hTl))) ?_
  rintro _ _ ⟨_, rfl, A_19, c_20, rfl, rfl⟩
  refine wg rfl rfl <| wr_nil <| wq <| wg rfl rfl <| wr_nil <| w_seq <| wq <| wg rfl rfl <| wr_nil <| w_block ?_
  refine w_loop6 (fun (h : Int) (was : Int) (l : List (Int × Int)) (A4 : Option Addr) (c4 : Nat) (rs : List Int) => [(3, .pointer (some ⟨g_1, 0, none⟩)), (4, .int .i64 lg), (9, .slice A_19 T.length c_20), (10, .int .i64 was), (11, .int .i64 h)]) (fun (h : Int) (was : Int) (l : List (Int × Int)) (A4 : Option Addr) (c4 : Nat) (rs : List Int) => [⟨45, 2, A_19, T.length, c_20, prs l, false⟩, ⟨45, 2, A1, T.length, c1, prs T, false⟩, ⟨3, 1, A2, Bs.length, c2, ints .i64 Bs, false⟩, ⟨3, 1, A4, Rs.length, c4, ints .i64 rs, false⟩, ⟨67, 4, (some ⟨g_1, 0, none⟩), 1, 1, [.slice A_ws ws.length c_ws, .slice A1 T.length c1, .slice A2 Bs.length c2, .slice A4 Rs.length c4], false⟩]) (fun (h : Int) (was : Int) (l : List (Int × Int)) (A4 : Option Addr) (c4 : Nat) (rs : List Int) => (0 ≤ h) ∧ (l.Perm T) ∧ (rs.length = Rs.length) ∧ (RK ws Bs (curH h) rs) ∧ (0 < h → Sorted ws (curH h) l ∧ Go.Pure.Steps Bs rs l was)) (fun (h : Int) (was : Int) (l : List (Int × Int)) (A4 : Option Addr) (c4 : Nat) (rs : List Int) => (2 * lg - h).toNat) ?_ ?_
  ·
   exact ⟨0, -1, T, A3, c3, Rs, ⟨(by omega), (.refl _), (rfl), (by rw [hRs, hBs]; exact rk_first ws), (fun h => absurd h (by omega))⟩, (sc rfl (sc rfl (sc rfl (sc rfl (sc rfl Sub.nil))))), fun _ h => h⟩
  intro h was l A4 c4 rs ⟨hh0, hlp, hrl, hRK, hst⟩
  have htv : ∀ t ∈ l, TV ws t := fun t ht => mem_all.1 (by rw [← hT]; exact hlp.mem_iff.1 ht)
  have hvv : ∀ t ∈ l, TOk ws Bs rs.length t := fun t ht => by rw [hrl, hRs, hBs]; exact all_tok (by omega) (htv t ht)
  have hij : ∀ t ∈ l, ∀ u ∈ l, posT Bs t = posT Bs u → t = u := fun t ht u hu e => posT_inj (htv t ht) (htv u hu) (by rw [← hBs]; exact e)
  have hnd : l.Nodup := hlp.nodup_iff.2 (by rw [hT]; exact tlist_nodup ws _)
  have hrs : Rs.length = ws.flatten.length := by rw [hRs]
  have hll := hlp.length_eq
  have hTo : T.length = offs ws ws.length := by rw [hT]; exact hoT
  refine w_seq <| wq <| wm rfl rfl <| wm rfl rfl <| wr_y rfl (y_mulI rfl rfl (by omega)) <| wL rfl rfl rfl <| wr_nil <| w_if rfl (fun hc3 => ?_) (fun hc3 => ?_)
  ·
   have hne : l ≠ [] := fun e => by rw [e] at hll; simp only [List.length_nil] at hll; omega
   refine w_skip <| w_seq <| w_block <| wq <| wm rfl rfl <| wm rfl rfl <| wm rfl rfl <| wr_sub (R1 := [⟨67, 4, (some ⟨g_1, 0, none⟩), 1, 1, [.slice A_ws ws.length c_ws, .slice A1 T.length c1, .slice A2 Bs.length c2, .slice A4 Rs.length c4], false⟩, ⟨45, 2, A_19, T.length, c_20, prs l, false⟩, ⟨3, 1, A2, Bs.length, c2, ints .i64 Bs, false⟩, ⟨3, 1, A4, Rs.length, c4, ints .i64 rs, false⟩, ⟨45, 2, A1, T.length, c1, prs T, false⟩]) (Sub.refl _) (fun _ h => h.sel [4, 0, 2, 3, 1] (by decide) rfl) <| wr_a rfl (a_callF en35 rfl (doubles_ct (bs := Bs) (rs := rs) (ts := l) hll.symm rfl hrl.symm (h_ws.c _) (fun w hw => s_ws.c hw) hvv hij hnd hne ⟨by omega, by omega⟩ ⟨hh0, by omega⟩)) ?_
   rintro _ _ ⟨l_23, rk_24, A_21, c_22, rfl, hp_l_23, hs_l_23, hl_rk_24, hr_rk_24, rfl⟩
   have hs2 : Sorted ws (nextH h) l_23 := ⟨fun t ht => htv t (hp_l_23.mem_iff.1 ht), hp_l_23.nodup_iff.2 hnd, hs_l_23.imp_of_mem fun {x y} hx hy hn ho => hn ((tcmp_ord hh0 hRK (htv y (hp_l_23.mem_iff.1 hy)) (htv x (hp_l_23.mem_iff.1 hx))).2 ho)⟩
   have hall2 : ∀ t, TV ws t → t ∈ l_23 := fun t ht => hp_l_23.mem_iff.2 (hlp.mem_iff.2 (by rw [hT]; exact mem_all.2 ht))
   have hRK2 := rk_next hh0 hRK hs2 hall2 hr_rk_24
   have hst2 := steps_next hh0 hRK hs2 hr_rk_24
   have hcl := hp_l_23.length_eq
   refine wr_rows (R1 := [⟨67, 4, (some ⟨g_1, 0, none⟩), 1, 1, [.slice A_ws ws.length c_ws, .slice A1 T.length c1, .slice A2 Bs.length c2, .slice A_21 Rs.length c_22], false⟩, ⟨45, 2, A_19, T.length, c_20, prs l_23, false⟩, ⟨3, 1, A2, Bs.length, c2, ints .i64 Bs, false⟩, ⟨3, 1, A_21, Rs.length, c_22, ints .i64 rk_24, false⟩, ⟨45, 2, A1, T.length, c1, prs T, false⟩]) rfl <| wg rfl rfl <| wr_nil <| w_seq <| wq <| wm rfl rfl <| wm rfl rfl <| wr_y rfl (y_eq rfl rfl) <| wm rfl rfl <| wr_mid 3 [(3, .pointer (some ⟨g_1, 0, none⟩)), (4, .int .i64 lg), (9, .slice A_19 T.length c_20), (11, .int .i64 h), (12, .int .i64 (clsF ws Bs rs h l_23 (l_23.length - 1))), (95, .bool (decide (((clsF ws Bs rs h l_23 (l_23.length - 1)) = was) ∧ (0 < h))))] [⟨67, 4, (some ⟨g_1, 0, none⟩), 1, 1, [.slice A_ws ws.length c_ws, .slice A1 T.length c1, .slice A2 Bs.length c2, .slice A_21 Rs.length c_22], false⟩, ⟨45, 2, A_19, T.length, c_20, prs l_23, false⟩, ⟨3, 1, A2, Bs.length, c2, ints .i64 Bs, false⟩, ⟨3, 1, A_21, Rs.length, c_22, ints .i64 rk_24, false⟩, ⟨45, 2, A1, T.length, c1, prs T, false⟩] ?_ ?_
   ·
    refine wr_case 92 rfl (fun hc4 => ?_) (fun hc4 => ?_)
    ·
     refine wr_yes rfl rfl <| wm rfl rfl <| wr_yes rfl rfl <| wr_y rfl (y_gt rfl rfl) <| wr_y rfl (y_pickT rfl rfl) <| wr_nil ?_
     exact ⟨(sc rfl (sc rfl (sc rfl (sc rfl (sc rfl (Sub.to rfl (mb (by first | omega | exact ⟨fun h => ⟨(by assumption), h⟩, fun h => h.2⟩ | exact .inl (by assumption) | exact ⟨.inr, fun h => h.resolve_left (by assumption)⟩ | exact ⟨fun h => h.resolve_left (by assumption), .inr⟩ | simp [*])) Sub.nil)))))), fun _ h => h⟩
    ·
     refine wr_no rfl rfl rfl rfl <| wr_no rfl rfl rfl rfl <| wr_y rfl (y_pickF rfl rfl) <| wr_nil ?_
     exact ⟨(sc rfl (sc rfl (sc rfl (sc rfl (sc rfl (Sub.to rfl (mb_f (by first | omega | exact ⟨fun h => ⟨(by assumption), h⟩, fun h => h.2⟩ | exact .inl (by assumption) | exact ⟨.inr, fun h => h.resolve_left (by assumption)⟩ | exact ⟨fun h => h.resolve_left (by assumption), .inr⟩ | simp [*])) Sub.nil)))))), fun _ h => h⟩
   refine wr_nil <| w_if rfl (fun hc5 => ?_) (fun hc5 => ?_)
   ·
    refine w_exit <| wq <| wm rfl rfl <| wg rfl rfl <| wr_nil <| w_retR (R1 := [⟨45, 2, A_19, T.length, c_20, prs l_23, false⟩]) (fun _ h => h.sel [1] (by decide) rfl) ?_
    refine ⟨_, rfl, ?_⟩
    have hle : T.length = l_23.length := by omega
    rw [hle]
    refine ⟨l_23, _, _, rfl, ?_, ?_, rfl⟩
    ·rw [← hT]; exact hp_l_23.trans hlp
    ·exact stay hc5.2 hRK hs2 hall2 hp_l_23 (hst hc5.2).2 hc5.1
   ·
    refine w_skip <| w_reg <| wm rfl rfl <| wg rfl rfl <| wr_nil <| w_reg <| wm rfl rfl <| wr_y rfl (y_mulI rfl rfl (by omega)) <| wr_y rfl (y_max rfl rfl) <| wg rfl rfl <| wr_nil ?_
    exact ⟨max 1 (2 * h), clsF ws Bs rs h l_23 (l_23.length - 1), l_23, A_21, c_22, rk_24, ⟨(by omega), (hp_l_23.trans hlp), (by omega), (by have e : curH (max 1 (2 * h)) = nextH h := (by unfold curH nextH; split <;> omega); rw [e]; exact hRK2), (fun _ => by have e : curH (max 1 (2 * h)) = nextH h := (by unfold curH nextH; split <;> omega); rw [e]; exact ⟨hs2, hst2⟩)⟩, (by omega), (sc rfl (sc rfl (sc rfl (sc rfl (sc rfl Sub.nil))))), fun _ h => h.sel [1, 4, 2, 3, 0] (by decide) rfl⟩
  ·
   refine w_exit <| wq <| wm rfl rfl <| wg rfl rfl <| wr_nil <| w_retR (R1 := [⟨45, 2, A_19, T.length, c_20, prs l, false⟩]) (fun _ h => h.sel [0] (by decide) rfl) ?_
   refine ⟨_, rfl, ?_⟩
   have hle : T.length = l.length := by omega
   rw [hle]
   refine ⟨l, _, _, rfl, ?_, ?_, rfl⟩
   ·rw [← hT]; exact hlp
   ·by_cases h0 : 0 < h
    ·refine (hst h0).1.toO fun t u ht hu e => eq_all_long ht hu ?_ e
     have a := hlg t.1 ht.1 (by rw [hke]; exact ht.2.1)
     have b := hlg u.1 hu.1 (by rw [hke]; exact hu.2.1)
     unfold curH
     omega
    ·have hl0 : l = [] := List.eq_nil_of_length_eq_zero (by omega)
     rw [hl0]
     exact .nil

end Go.Proofs.YtdfcnalkdlifiaaGreat

/-! ## F9 -/
namespace Go.Proofs.YtdfcnalkdlifiaaGreat
open Go Go.Eng Go.Pure
set_option linter.unusedVariables false
end Go.Proofs.YtdfcnalkdlifiaaGreat

/-! ## F10 -/
namespace Go.Proofs.YtdfcnalkdlifiaaGreat
open Go Go.Eng Go.Pure
set_option linter.unusedVariables false
end Go.Proofs.YtdfcnalkdlifiaaGreat

/-! ## Q18 -/
namespace Go.Pure
open Go Go.Eng
def cntOf (c : Int) (l : List Int) : Int := ((l.filter fun x => decide (x = c)).length : Int)
def CntI (u m : List Int) (i : Int) (V : List Int) : Prop := ∀ c : Int, 0 ≤ c → c < 256 → rd V c = cntOf c (u.take i.toNat) - cntOf c (m.take i.toNat)
section
variable {u m V : List Int} {i : Int}
end
theorem rd_mapP {l : List (Int × Int)} {f : Int × Int → Int} {i : Int} (h0 : 0 ≤ i) (h : i < l.length) : rd (l.map f) i = f (rdp l i) := by
 unfold rd rdp
 rw [List.getD_eq_getElem?_getD, List.getD_eq_getElem?_getD, List.getElem?_map, List.getElem?_eq_getElem (by omega)]
 rfl
end Go.Pure

/-! ## F11 -/
namespace Go.Proofs.YtdfcnalkdlifiaaGreat
open Go Go.Eng Go.Pure
set_option linter.unusedVariables false
end Go.Proofs.YtdfcnalkdlifiaaGreat

/-! ## Q31 -/
namespace Go.Pure
open Go Go.Eng
section
variable {p : List Int}
theorem walkC_keeps {j : Int} (j0 : 0 ≤ j) : ∀ (f : Nat) (E : List Bool) (k : Int), (hp : p.Perm (iota p.length)) → E.length = p.length → 0 ≤ k → k < p.length → rdb E j = true → rdb (walkC p f E k).2 j = true
 | 0, E, k, _, _, _, _, h => h
 | f + 1, E, k, hp, hl, k0, hk, h => by
  rw [walkC]
  split
  ·exact h
  ·have hn := mem_iota.1 (hp.subset (rd_mem (L := p) k0 hk))
   refine walkC_keeps j0 f _ _ hp (by rw [updB_len]; exact hl) hn.1 hn.2 ?_
   rw [rdb_upd k0 (by omega) j0]
   split
   ·rfl
   ·exact h
theorem walkC_marks (hp : p.Perm (iota p.length)) {f : Nat} {E : List Bool} {k : Int} (hl : E.length = p.length) (k0 : 0 ≤ k) (hk : k < p.length) (hf : cntF E ≤ f) : rdb (walkC p f E k).2 k = true := by
 by_cases h : rdb E k = true
 ·rw [walkC_seen h]; exact h
 ·rw [walkC_go k0 (by omega) hf h]
  have hn := mem_iota.1 (hp.subset (rd_mem (L := p) k0 hk))
  exact walkC_keeps k0 _ _ _ hp (by rw [updB_len]; exact hl) hn.1 hn.2 (by rw [rdb_upd k0 (by omega) k0, if_pos rfl])
theorem cycK_seen (hp : p.Perm (iota p.length)) : ∀ i : Nat, i ≤ p.length → ∀ j : Nat, j < i → rdb (cycK p i).1 j = true
 | 0, _, j, hj => by omega
 | i + 1, hi, j, hj => by
  have hf := cycK_facts hp i (by omega)
  have hc : cntF (cycK p i).1 ≤ p.length := by have := hf.2.2; omega
  rw [cycK]
  rcases Nat.lt_or_ge j i with g | g
  ·exact walkC_keeps (by omega) _ _ _ hp hf.1 (by omega) (by omega) (cycK_seen hp i (by omega) j g)
  ·obtain rfl : j = i := by omega
   exact walkC_marks hp hf.1 (by omega) (by omega) hc
theorem cntF_zero {E : List Bool} (h : ∀ j : Nat, j < E.length → rdb E j = true) : cntF E = 0 := by
 unfold cntF
 rw [List.countP_eq_zero]
 intro b hb
 obtain ⟨j, hj, rfl⟩ := List.mem_iff_getElem.1 hb
 have := h j hj
 have e : rdb E (j : Int) = E[j] := by unfold rdb; rw [Int.toNat_natCast, List.getD_eq_getElem?_getD, List.getElem?_eq_getElem hj]; rfl
 rw [e] at this
 rw [this]; simp
/-- Each place is in a ring. -/
theorem cycL_all (hp : p.Perm (iota p.length)) : (cycL p).flatten.length = p.length := by
 have hf := cycK_facts hp p.length (Nat.le_refl _)
 have := cntF_zero (E := (cycK p p.length).1) fun j hj => cycK_seen hp p.length (Nat.le_refl _) j (by rw [hf.1] at hj; exact hj)
 unfold cycL
 omega
theorem backL_len (l : List Int) (cs : List (List Int)) : (backL l cs).length = cs.flatten.length := by
 unfold backL
 rw [List.length_flatten, List.map_map, List.length_flatten, List.map_reverse, List.sum_reverse]
 congr 2
 funext c
 exact wordC_len l c
theorem mem_backL {l : List Int} {cs : List (List Int)} {x : Int} (h : x ∈ backL l cs) : ∃ y, y ∈ cs.flatten ∧ x = rd l y := by
 unfold backL at h
 obtain ⟨w, hw, hx⟩ := List.mem_flatten.1 h
 obtain ⟨c, hc, rfl⟩ := List.mem_map.1 hw
 unfold wordC at hx
 obtain ⟨y, hy, rfl⟩ := List.mem_map.1 hx
 exact ⟨y, List.mem_flatten.2 ⟨c, List.mem_reverse.1 hc, List.mem_reverse.1 hy⟩, rfl⟩
theorem backL_byt {l : List Int} (hl : ByteL l) (cs : List (List Int)) : ByteL (backL l cs) := fun x hx => by
 obtain ⟨y, _, rfl⟩ := mem_backL hx
 exact hl.rd _
theorem cyc_mem {cs : List (List Int)} {k : Int} (k0 : 0 ≤ k) (hk : k < cs.length) : rdl cs k ∈ cs := by
 unfold rdl
 rw [List.getD_eq_getElem?_getD, List.getElem?_eq_getElem (by omega)]
 exact List.getElem_mem _
theorem word_inner {l acc acc2 c : List Int} {kq : Nat} (hk : kq < c.length) (h : acc2 = acc ++ ((c.reverse).take kq).map (rd l)) : acc2 ++ [rd l (rd c ((c.length - 1 - kq : Nat) : Int))] = acc ++ ((c.reverse).take (kq + 1)).map (rd l) := by
 rw [wordC_step hk, ← List.append_assoc, ← h, show ((c.length - 1 - kq : Nat) : Int) = (c.length : Int) - 1 - kq by omega]
theorem cyc_count {p : List Int} : (cycL p).length ≤ p.length := cycK_few p p.length
end
end Go.Pure

/-! ## H2 -/
namespace Go.Proofs.YtdfcnalkdlifiaaGreat
open Go Go.Eng Go.Pure
set_option linter.unusedVariables false
set_option maxRecDepth 100000 in
theorem backInts_ct {B : Nat} {w0 : World} {R : List Row} {A_s : Option Addr} {n_s c_s : Nat} :
  Ct Tryz.prog 39 #[.slice A_s n_s c_s] B w0 R (fun v R' => ∃ g, v = .func (.func 68) #[] #[.pointer (some ⟨g, 0, none⟩)] ∧ R' = ⟨24, 1, some ⟨g, 0, none⟩, 1, 1, [.slice A_s n_s c_s], false⟩ :: R) := by
 refine fn1 Tryz.func39 rfl rfl rfl ?_
 refine wq <| wr_a rfl (a_box (sz := 1) rfl rfl) ?_
 rintro _ _ ⟨g, rfl, rfl⟩
 refine wg rfl rfl <| wr_nil <| wq <| wr_y rfl (y_makeFunc rfl rfl) <| wg rfl rfl <| wr_nil <| w_ret ?_
 exact ⟨_, rfl, g, rfl, rfl⟩

end Go.Proofs.YtdfcnalkdlifiaaGreat

