/- Several texts of our own in one: G2, G3, G4, G5, S3, E22, I1, K2, I2, E23, I3, I4. -/
import Derived.Shelf.Bits.Mul64
import Derived.Test.YtdfcnalkdlifiaaGreatProg
import Derived.Laws.CopyRow
import Derived.Laws.IdiomCopy
import Derived.Test.YtdfcnalkdlifiaaGreatC3
/-! ## G2 -/
namespace Go.Proofs.YtdfcnalkdlifiaaGreat
open Go Go.Eng Go.Pure
open Tryz
set_option linter.unusedVariables false
set_option maxRecDepth 100000 in
theorem on15_ct {w : World} {A_l : Option Addr} {n_l c_l : Nat} {l : List Int} {i : Int} {h : Int} (h_l : Rd w A_l n_l c_l 1 (ints .i64 l)) (hb : (0 ≤ i ∧ i ≤ 1000000) ∧ (0 ≤ h ∧ h ≤ 1000000)) (hl : ∀ x ∈ l, 0 ≤ x ∧ x ≤ 1000000) :
  Ct Tryz.prog 172 #[.slice A_l n_l c_l, .int .i64 i, .int .i64 h] w.heap.size w [] (fun v R' => v = .int .i64 (onF l i h)) := by
 obtain rfl := h_l.lenI
 refine fn1 Tryz.func172 rfl rfl rfl ?_
 have m_l := h_l.max
 refine wq <| wg rfl rfl <| wr_nil <| w_seq <| wq <| wm rfl rfl <| wm rfl rfl <| wA rfl rfl rfl (by omega) <| wm rfl rfl <| wr_y rfl (y_len underlying24 rfl) <| wr_y rfl (y_ge rfl rfl) <| wr_nil <| w_if rfl (fun hc1 => ?_) (fun hc1 => ?_)
 ·
  refine wq <| wg rfl rfl <| wr_nil <| w_ret ?_
  refine ⟨_, rfl, ?_⟩
  exact congrArg (Value.int .i64) (by unfold onF; rw [if_pos (by omega)])
 ·
  have hm := hl _ (rd_mem (L := l) (k := i + h) (by omega) (by omega))
  refine w_skip <| wq <| wm rfl rfl <| wm rfl rfl <| wm rfl rfl <| wA rfl rfl rfl (by omega) <| wr_y rfl (y_index1 underlying24 sz3 rfl rfl (h_l.c _) (by omega) (by omega)) <| wr_y rfl (y_ldI underlying3 rfl rfl (h_l.c _) (by omega) (by omega)) <| wA rfl rfl rfl (by omega) <| wg rfl rfl <| wr_nil <| w_ret ?_
  refine ⟨_, rfl, ?_⟩
  exact congrArg (Value.int .i64) (by unfold onF; rw [if_neg (by omega)])

set_option maxRecDepth 100000 in
set_option maxHeartbeats 1200000 in
theorem joined_ct {w : World} {A_l : Option Addr} {n_l c_l : Nat} {l : List Int} {h : Int} {s : List Int} {n b : Nat} (h_l : Rd w A_l n_l c_l 1 (ints .i64 l)) (hl : l = rkL s n) (hh : h = b) (hn : 0 < n) (hb : b ≤ n) (hN : s.length ≤ 100000 ∧ n ≤ 100000) :
  Ct Tryz.prog 156 #[.slice A_l n_l c_l, .int .i64 h] w.heap.size w [] (fun v R' => ∃ A c A' c', v = .tuple #[.slice A s.length c, .slice A' s.length c'] ∧ R' = [⟨3, 1, A, s.length, c, ints .i64 (rkL s (n + b)), false⟩, ⟨3, 1, A', s.length, c', ints .i64 (joinO s n b), false⟩]) := by
 obtain rfl := h_l.lenI
 refine fn2 Tryz.func156 rfl rfl rfl ?_
 have m_l := h_l.max
 have hll : l.length = s.length := by rw [hl, rkL_len]
 refine wq <| wg rfl rfl <| wg rfl rfl <| wr_nil <| wq <| wm rfl rfl <| wr_y rfl (y_len underlying24 rfl) <| wr_a rfl (a_makeN underlying24 zb3 rfl rfl (by omega) (by omega) (by omega)) ?_
 rintro _ _ ⟨g_1, rfl, rfl⟩
 refine wr_rows (R1 := [⟨3, 1, (some ⟨g_1, 0, none⟩), l.length, l.length, ints .i64 (List.replicate l.length (0 : Int)), false⟩]) rfl <| wr_as (v := .slice (some ⟨g_1, 0, none⟩) l.length l.length) rfl <| wg rfl rfl <| wr_nil <| wq <| wm rfl rfl <| wr_y rfl (y_len underlying24 rfl) <| wr_a rfl (a_makeN underlying24 zb3 rfl rfl (by omega) (by omega) (by omega)) ?_
 rintro _ _ ⟨g_2, rfl, rfl⟩
 refine wr_rows (R1 := [⟨3, 1, (some ⟨g_2, 0, none⟩), l.length, l.length, ints .i64 (List.replicate l.length (0 : Int)), false⟩, ⟨3, 1, (some ⟨g_1, 0, none⟩), l.length, l.length, ints .i64 (List.replicate l.length (0 : Int)), false⟩]) rfl <| wr_as (v := .slice (some ⟨g_2, 0, none⟩) l.length l.length) rfl <| wg rfl rfl <| wr_nil <| w_seq <| wq <| wm rfl rfl <| wr_y rfl (y_len underlying24 rfl) <| wm rfl rfl <| wr_nil <| w_block ?_
 refine w_loop3 (fun (i : Int) (O : List Int) (K : List Int) => [(0, .slice A_l l.length c_l), (1, .int .i64 h), (6, .slice (some ⟨g_1, 0, none⟩) l.length l.length), (7, .slice (some ⟨g_2, 0, none⟩) l.length l.length), (19, .int .i64 ((l.length : Nat) : Int)), (20, .int .i64 i)]) (fun (i : Int) (O : List Int) (K : List Int) => [⟨3, 1, (some ⟨g_2, 0, none⟩), l.length, l.length, ints .i64 K, false⟩, ⟨3, 1, (some ⟨g_1, 0, none⟩), l.length, l.length, ints .i64 O, false⟩]) (fun (i : Int) (O : List Int) (K : List Int) => (0 ≤ i) ∧ (i ≤ s.length) ∧ (O.length = s.length) ∧ (∀ j : Int, 0 ≤ j → j < i → rd O j = j) ∧ (K.length = s.length) ∧ (∀ j : Int, 0 ≤ j → j < i → rd K j = rkOn s n (j.toNat + b))) (fun (i : Int) (O : List Int) (K : List Int) => (s.length - i).toNat) ?_ ?_
 ·
  exact ⟨0, List.replicate l.length (0 : Int), List.replicate l.length (0 : Int), ⟨(by omega), (by omega), (by rw [List.length_replicate, hll]), (fun j h1 h2 => by omega), (by rw [List.length_replicate, hll]), (fun j h1 h2 => by omega)⟩, (sc rfl (sc rfl (sc rfl (sc rfl (sc rfl (sc rfl Sub.nil)))))), fun _ h => h⟩
 intro i O K ⟨hi0, hi1, hOl, hO, hKl, hK⟩
 refine wq <| wL rfl rfl rfl <| wr_nil <| w_seq <| w_if rfl (fun hc1 => ?_) (fun hc1 => ?_)
 ·
  refine w_skip <| w_seq <| w_block <| wq <| wm rfl rfl <| wg rfl rfl <| wr_nil <| w_reg <| wm rfl rfl <| wm rfl rfl <| wm rfl rfl <| wm rfl rfl <| wm rfl rfl <| wm rfl rfl ?_
  refine wm rfl rfl <| wm rfl rfl <| wr_a rfl (a_callF en172 rfl (Ct.quiet (fun w hw => on15_ct ((h_l.c _) w hw) ⟨by omega, by omega⟩ (fun x hx => by rw [hl] at hx; have := rkL_bd x hx; omega)))) ?_
  rintro _ _ ⟨rfl, rfl⟩
  refine wr_y rfl (y_index1 underlying24 sz3 rfl rfl (rdr 1 rfl) (by omega) (by omega)) <| wr_n (a_storeI 1 rfl sz3 rfl rfl (by omega) (by omega)) ?_
  rintro _ _ rfl
  refine wr_rows (R1 := [⟨3, 1, (some ⟨g_2, 0, none⟩), l.length, l.length, ints .i64 K, false⟩, ⟨3, 1, (some ⟨g_1, 0, none⟩), l.length, l.length, ints .i64 (upd O i i), false⟩]) rfl <| wr_y rfl (y_index1 underlying24 sz3 rfl rfl (rdr 0 rfl) (by omega) (by omega)) <| wr_n (a_storeI 0 rfl sz3 rfl rfl (by omega) (by omega)) ?_
  rintro _ _ rfl
  refine wr_rows (R1 := [⟨3, 1, (some ⟨g_2, 0, none⟩), l.length, l.length, ints .i64 (upd K i (onF l i h)), false⟩, ⟨3, 1, (some ⟨g_1, 0, none⟩), l.length, l.length, ints .i64 (upd O i i), false⟩]) rfl <| wr_nil <| w_reg <| wA rfl rfl rfl (by omega) <| wm rfl rfl <| wr_nil ?_
  exact ⟨i + 1, upd O i i, upd K i (onF l i h), ⟨(by omega), (by omega), (by rw [upd_length]; exact hOl), (fill_step (f := fun j => j) hi0 (by omega) hO rfl), (by rw [upd_length]; exact hKl), (fill_step (f := fun j => (rkOn s n (j.toNat + b) : Int)) hi0 (by omega) hK (by rw [hh, hl]; exact onF_rk hi0 (by omega)))⟩, (by omega), (sc rfl (sc rfl (sc rfl (sc rfl (sc rfl (sc rfl Sub.nil)))))), fun _ h => h⟩
 ·
  obtain rfl : O = iota s.length := iota_of hOl (fun j h1 h2 => hO j h1 (by omega))
  obtain rfl : K = onL s n b := onL_of hKl (fun j h1 h2 => hK j h1 (by omega))
  have hlen1 : (passK (iota s.length) (onL s n b) (((l.length : Nat) : Int) + 1).toNat).length = s.length := by rw [show (((l.length : Nat) : Int) + 1).toNat = s.length + 1 by omega, (join_perm1 s n b).length_eq, iota_len]
  refine w_exit <| wq <| wm rfl rfl <| wm rfl rfl <| wm rfl rfl <| wr_y rfl (y_len underlying24 rfl) <| wA rfl rfl rfl (by omega) <| wr_a rfl (a_callF en66 rfl (Ct.fresh (fun w hw => pass_ct ((rdr 1 rfl) w hw) ((rdr 0 rfl) w hw) (by omega) (fun x hx => by have := onL_bd x hx; omega) (fun x hx => by have := mem_iota.1 hx; rw [onL_len]; omega) (by rw [iota_len]; omega)))) ?_
  rintro _ _ ⟨_, rfl, A_3, c_4, rfl, rfl⟩
  refine wm rfl rfl <| wX rfl rfl rfl <| wX rfl rfl rfl <| wg rfl rfl <| wr_nil <| wq <| wm rfl rfl <| wm rfl rfl <| wm rfl rfl <| wr_y rfl (y_len underlying24 rfl) <| wr_a rfl (a_callF en66 rfl (Ct.fresh (fun w hw => pass_ct ((rdr 0 rfl) w hw) ((h_l.c _) w hw) (by omega) (fun x hx => by rw [hl] at hx; have := rkL_bd x hx; omega) (fun x hx => by rw [show (((l.length : Nat) : Int) + 1).toNat = s.length + 1 by omega] at hx; have := mem_iota.1 ((join_perm1 s n b).subset hx); omega) (by rw [hlen1]; omega)))) ?_
  rintro _ _ ⟨_, rfl, A_7, c_8, rfl, rfl⟩
  refine wm rfl rfl <| wX rfl rfl rfl <| wX rfl rfl rfl <| wg rfl rfl <| wr_nil <| wq <| wm rfl rfl <| wr_y rfl (y_len underlying24 rfl) <| wr_a rfl (a_makeN underlying24 zb3 rfl rfl (by omega) (by omega) (by omega)) ?_
  rintro _ _ ⟨g_11, rfl, rfl⟩
  refine wr_rows (R1 := [⟨3, 1, (some ⟨g_11, 0, none⟩), l.length, l.length, ints .i64 (List.replicate l.length (0 : Int)), false⟩, ⟨3, 1, A_7, (((passK (iota s.length) (onL s n b) ((((l.length : Nat) : Int) + 1)).toNat)).length), c_8, ints .i64 (passK (passK (iota s.length) (onL s n b) ((((l.length : Nat) : Int) + 1)).toNat) l (((l.length : Nat) : Int)).toNat), false⟩, ⟨3, 1, A_3, (((iota s.length)).length), c_4, ints .i64 (passK (iota s.length) (onL s n b) ((((l.length : Nat) : Int) + 1)).toNat), false⟩, ⟨3, 1, (some ⟨g_2, 0, none⟩), l.length, l.length, ints .i64 (onL s n b), false⟩, ⟨3, 1, (some ⟨g_1, 0, none⟩), l.length, l.length, ints .i64 (iota s.length), false⟩]) rfl <| wr_as (v := .slice (some ⟨g_11, 0, none⟩) l.length l.length) rfl <| wg rfl rfl <| wr_nil <| w_seq <| wq <| wm rfl rfl <| wr_y rfl (y_len underlying24 rfl) <| wm rfl rfl <| wr_nil <| w_block ?_
  refine w_loop3 (fun (p : Int) (D : List Int) (V : List Int) => [(0, .slice A_l l.length c_l), (6, .slice A_7 (((passK (iota s.length) (onL s n b) ((((l.length : Nat) : Int) + 1)).toNat)).length) c_8), (7, .slice (some ⟨g_2, 0, none⟩) l.length l.length), (9, .slice (some ⟨g_11, 0, none⟩) l.length l.length), (55, .slice A_7 (((passK (iota s.length) (onL s n b) ((((l.length : Nat) : Int) + 1)).toNat)).length) c_8), (56, .int .i64 ((((passK (iota s.length) (onL s n b) ((((l.length : Nat) : Int) + 1)).toNat)).length : Nat) : Int)), (57, .int .i64 p)]) (fun (p : Int) (D : List Int) (V : List Int) => [⟨3, 1, (some ⟨g_11, 0, none⟩), l.length, l.length, ints .i64 V, false⟩, ⟨3, 1, A_7, (((passK (iota s.length) (onL s n b) ((((l.length : Nat) : Int) + 1)).toNat)).length), c_8, ints .i64 D, false⟩, ⟨3, 1, A_3, (((iota s.length)).length), c_4, ints .i64 (passK (iota s.length) (onL s n b) ((((l.length : Nat) : Int) + 1)).toNat), false⟩, ⟨3, 1, (some ⟨g_2, 0, none⟩), l.length, l.length, ints .i64 (onL s n b), false⟩, ⟨3, 1, (some ⟨g_1, 0, none⟩), l.length, l.length, ints .i64 (iota s.length), false⟩]) (fun (p : Int) (D : List Int) (V : List Int) => (0 ≤ p) ∧ (p ≤ s.length) ∧ (D = joinO s n b) ∧ (V.length = s.length) ∧ (∀ q : Int, 0 ≤ q → q < p → rd V (rd D q) = rkS s (n + b) (rd D q).toNat)) (fun (p : Int) (D : List Int) (V : List Int) => (s.length - p).toNat) ?_ ?_
  ·
   exact ⟨0, passK (passK (iota s.length) (onL s n b) ((((l.length : Nat) : Int) + 1)).toNat) l (((l.length : Nat) : Int)).toNat, List.replicate l.length (0 : Int), ⟨(by omega), (by omega), (by rw [hl, rkL_len]; unfold joinO; rw [show ((s.length : Int) + 1).toNat = s.length + 1 by omega, Int.toNat_natCast]), (by rw [List.length_replicate, hll]), (fun q h1 h2 => by omega)⟩, (sc rfl (sc rfl (sc rfl (sc rfl (sc rfl (sc rfl (sc rfl Sub.nil))))))), fun _ h => h⟩
  intro p D V ⟨hp0, hp1, hD, hVl, hV⟩
  refine wq <| wL rfl rfl rfl <| wr_nil <| w_seq <| w_if rfl (fun hc2 => ?_) (fun hc2 => ?_)
  ·
   have hm := joinO_mem (s := s) (n := n) (b := b) hp0 (by omega)
   rw [← hD] at hm
   refine w_skip <| w_seq <| w_block <| wq <| wm rfl rfl <| wr_y rfl (y_index1 underlying24 sz3 rfl rfl (rdr 1 rfl) (by omega) (by omega)) <| wr_y rfl (y_ldI underlying3 rfl rfl (rdr 1 rfl) (by omega) (by omega)) <| wg rfl rfl <| wg rfl rfl <| wr_nil <| wq <| wm rfl rfl <| wm rfl rfl ?_
   refine wm rfl rfl <| wr_y rfl (y_index1 underlying24 sz3 rfl rfl (rdr 0 rfl) (by omega) (by omega)) <| wr_n (a_storeI 0 rfl sz3 rfl rfl (by omega) (by omega)) ?_
   rintro _ _ rfl
   refine wr_rows (R1 := [⟨3, 1, (some ⟨g_11, 0, none⟩), l.length, l.length, ints .i64 (upd V (rd D p) p), false⟩, ⟨3, 1, A_7, (((passK (iota s.length) (onL s n b) ((((l.length : Nat) : Int) + 1)).toNat)).length), c_8, ints .i64 D, false⟩, ⟨3, 1, A_3, (((iota s.length)).length), c_4, ints .i64 (passK (iota s.length) (onL s n b) ((((l.length : Nat) : Int) + 1)).toNat), false⟩, ⟨3, 1, (some ⟨g_2, 0, none⟩), l.length, l.length, ints .i64 (onL s n b), false⟩, ⟨3, 1, (some ⟨g_1, 0, none⟩), l.length, l.length, ints .i64 (iota s.length), false⟩]) rfl <| wr_nil ?_
   refine w_join0 [(0, .slice A_l l.length c_l), (6, .slice A_7 (((passK (iota s.length) (onL s n b) ((((l.length : Nat) : Int) + 1)).toNat)).length) c_8), (7, .slice (some ⟨g_2, 0, none⟩) l.length l.length), (9, .slice (some ⟨g_11, 0, none⟩) l.length l.length), (10, .int .i64 p), (11, .int .i64 (rd D p)), (55, .slice A_7 (((passK (iota s.length) (onL s n b) ((((l.length : Nat) : Int) + 1)).toNat)).length) c_8), (56, .int .i64 ((((passK (iota s.length) (onL s n b) ((((l.length : Nat) : Int) + 1)).toNat)).length : Nat) : Int)), (57, .int .i64 p), (97, .bool (decide ((0 < p) ∧ (((rd l (rd D (p - 1))) = (rd l (rd D p))) ∧ ((rd (onL s n b) (rd D (p - 1))) = (rd (onL s n b) (rd D p)))))))] [⟨3, 1, (some ⟨g_11, 0, none⟩), l.length, l.length, ints .i64 (upd V (rd D p) p), false⟩, ⟨3, 1, A_7, (((passK (iota s.length) (onL s n b) ((((l.length : Nat) : Int) + 1)).toNat)).length), c_8, ints .i64 D, false⟩, ⟨3, 1, A_3, (((iota s.length)).length), c_4, ints .i64 (passK (iota s.length) (onL s n b) ((((l.length : Nat) : Int) + 1)).toNat), false⟩, ⟨3, 1, (some ⟨g_2, 0, none⟩), l.length, l.length, ints .i64 (onL s n b), false⟩, ⟨3, 1, (some ⟨g_1, 0, none⟩), l.length, l.length, ints .i64 (iota s.length), false⟩] ?_ ?_
   ·
    refine w_regd mixed <| wd_y 0 rfl (by kernel_rfl) rfl (y_move rfl) <| wd_y 1 rfl (by kernel_rfl) rfl (y_gt rfl rfl) <| wd_y 2 rfl (by kernel_rfl) rfl (y_move rfl) <| wd_case 68 rfl (fun hc3 => ?_) (fun hc3 => ?_)
    ·
     refine wd_yg 3 rfl (by kernel_rfl) rfl rfl rfl (y_move rfl) <| wd_yg 4 rfl (by kernel_rfl) rfl rfl rfl (y_move rfl) <| wd_yg 5 rfl (by kernel_rfl) rfl rfl rfl (y_move rfl) <| wd_yg 6 rfl (by kernel_rfl) rfl rfl rfl (y_subI rfl rfl (by omega)) <| wd_yg 7 rfl (by kernel_rfl) rfl rfl rfl (y_index1 underlying24 sz3 rfl rfl (rdr 1 rfl) (by omega) (by omega)) <| wd_yg 8 rfl (by kernel_rfl) rfl rfl rfl (y_ldI underlying3 rfl rfl (rdr 1 rfl) (by omega) (by omega)) <| wd_yg 9 rfl (by kernel_rfl) rfl rfl rfl (y_index1 underlying24 sz3 rfl rfl (h_l.c _) (by first | omega | (have hm1 := joinO_mem (s := s) (n := n) (b := b) (p := p - 1) (by omega) (by omega); rw [← hD] at hm1; omega)) (by first | omega | (have hm1 := joinO_mem (s := s) (n := n) (b := b) (p := p - 1) (by omega) (by omega); rw [← hD] at hm1; omega))) ?_
     refine wd_yg 10 rfl (by kernel_rfl) rfl rfl rfl (y_ldI underlying3 rfl rfl (h_l.c _) (by first | omega | (have hm1 := joinO_mem (s := s) (n := n) (b := b) (p := p - 1) (by omega) (by omega); rw [← hD] at hm1; omega)) (by first | omega | (have hm1 := joinO_mem (s := s) (n := n) (b := b) (p := p - 1) (by omega) (by omega); rw [← hD] at hm1; omega))) ?_
     refine wd_yg 11 rfl (by kernel_rfl) rfl rfl rfl (y_move rfl) <| wd_yg 12 rfl (by kernel_rfl) rfl rfl rfl (y_move rfl) <| wd_yg 13 rfl (by kernel_rfl) rfl rfl rfl (y_index1 underlying24 sz3 rfl rfl (h_l.c _) (by omega) (by omega)) <| wd_yg 14 rfl (by kernel_rfl) rfl rfl rfl (y_ldI underlying3 rfl rfl (h_l.c _) (by omega) (by omega)) <| wd_yg 15 rfl (by kernel_rfl) rfl rfl rfl (y_eq rfl rfl) <| wd_y 16 rfl (by kernel_rfl) rfl (y_pickT rfl rfl) <| wd_y 17 rfl (by kernel_rfl) rfl (y_move rfl) <| wd_case 83 rfl (fun hc4 => ?_) (fun hc4 => ?_)
     ·
      refine wd_yg 18 rfl (by kernel_rfl) rfl rfl rfl (y_move rfl) <| wd_yg 19 rfl (by kernel_rfl) rfl rfl rfl (y_move rfl) <| wd_yg 20 rfl (by kernel_rfl) rfl rfl rfl (y_move rfl) <| wd_yg 21 rfl (by kernel_rfl) rfl rfl rfl (y_subI rfl rfl (by omega)) <| wd_yg 22 rfl (by kernel_rfl) rfl rfl rfl (y_index1 underlying24 sz3 rfl rfl (rdr 1 rfl) (by omega) (by omega)) <| wd_yg 23 rfl (by kernel_rfl) rfl rfl rfl (y_ldI underlying3 rfl rfl (rdr 1 rfl) (by omega) (by omega)) <| wd_yg 24 rfl (by kernel_rfl) rfl rfl rfl (y_index1 underlying24 sz3 rfl rfl (rdr 3 rfl) (by first | omega | (have hm1 := joinO_mem (s := s) (n := n) (b := b) (p := p - 1) (by omega) (by omega); rw [← hD] at hm1; omega)) (by first | omega | (have hm1 := joinO_mem (s := s) (n := n) (b := b) (p := p - 1) (by omega) (by omega); rw [← hD] at hm1; omega))) ?_
      refine wd_yg 25 rfl (by kernel_rfl) rfl rfl rfl (y_ldI underlying3 rfl rfl (rdr 3 rfl) (by first | omega | (have hm1 := joinO_mem (s := s) (n := n) (b := b) (p := p - 1) (by omega) (by omega); rw [← hD] at hm1; omega)) (by first | omega | (have hm1 := joinO_mem (s := s) (n := n) (b := b) (p := p - 1) (by omega) (by omega); rw [← hD] at hm1; omega))) ?_
      refine wd_yg 26 rfl (by kernel_rfl) rfl rfl rfl (y_move rfl) <| wd_yg 27 rfl (by kernel_rfl) rfl rfl rfl (y_move rfl) <| wd_yg 28 rfl (by kernel_rfl) rfl rfl rfl (y_index1 underlying24 sz3 rfl rfl (rdr 3 rfl) (by omega) (by omega)) <| wd_yg 29 rfl (by kernel_rfl) rfl rfl rfl (y_ldI underlying3 rfl rfl (rdr 3 rfl) (by omega) (by omega)) <| wd_yg 30 rfl (by kernel_rfl) rfl rfl rfl (y_eq rfl rfl) <| wd_y 31 rfl (by kernel_rfl) rfl (y_pickT rfl rfl) <| wd_nil (by kernel_rfl) ?_
      exact ⟨(sc rfl (sc rfl (sc rfl (sc rfl (sc rfl (sc rfl (sc rfl (sc rfl (sc rfl (Sub.to rfl (mb (by first | omega | exact ⟨fun h => ⟨(by assumption), h⟩, fun h => h.2⟩ | exact .inl (by assumption) | exact ⟨.inr, fun h => h.resolve_left (by assumption)⟩ | exact ⟨fun h => h.resolve_left (by assumption), .inr⟩ | simp [*])) Sub.nil)))))))))), fun _ h => h⟩
     ·
      refine wd_no 18 rfl (by kernel_rfl) rfl rfl rfl rfl <| wd_no 19 rfl (by kernel_rfl) rfl rfl rfl rfl <| wd_no 20 rfl (by kernel_rfl) rfl rfl rfl rfl <| wd_no 21 rfl (by kernel_rfl) rfl rfl rfl rfl <| wd_no 22 rfl (by kernel_rfl) rfl rfl rfl rfl <| wd_no 23 rfl (by kernel_rfl) rfl rfl rfl rfl <| wd_no 24 rfl (by kernel_rfl) rfl rfl rfl rfl <| wd_no 25 rfl (by kernel_rfl) rfl rfl rfl rfl <| wd_no 26 rfl (by kernel_rfl) rfl rfl rfl rfl <| wd_no 27 rfl (by kernel_rfl) rfl rfl rfl rfl <| wd_no 28 rfl (by kernel_rfl) rfl rfl rfl rfl <| wd_no 29 rfl (by kernel_rfl) rfl rfl rfl rfl <| wd_no 30 rfl (by kernel_rfl) rfl rfl rfl rfl <| wd_y 31 rfl (by kernel_rfl) rfl (y_pickF rfl rfl) <| wd_nil (by kernel_rfl) ?_
      exact ⟨(sc rfl (sc rfl (sc rfl (sc rfl (sc rfl (sc rfl (sc rfl (sc rfl (sc rfl (Sub.to rfl (mb_f (by first | omega | exact ⟨fun h => ⟨(by assumption), h⟩, fun h => h.2⟩ | exact .inl (by assumption) | exact ⟨.inr, fun h => h.resolve_left (by assumption)⟩ | exact ⟨fun h => h.resolve_left (by assumption), .inr⟩ | simp [*])) Sub.nil)))))))))), fun _ h => h⟩
    ·
     refine wd_no 3 rfl (by kernel_rfl) rfl rfl rfl rfl <| wd_no 4 rfl (by kernel_rfl) rfl rfl rfl rfl <| wd_no 5 rfl (by kernel_rfl) rfl rfl rfl rfl <| wd_no 6 rfl (by kernel_rfl) rfl rfl rfl rfl <| wd_no 7 rfl (by kernel_rfl) rfl rfl rfl rfl <| wd_no 8 rfl (by kernel_rfl) rfl rfl rfl rfl <| wd_no 9 rfl (by kernel_rfl) rfl rfl rfl rfl <| wd_no 10 rfl (by kernel_rfl) rfl rfl rfl rfl <| wd_no 11 rfl (by kernel_rfl) rfl rfl rfl rfl <| wd_no 12 rfl (by kernel_rfl) rfl rfl rfl rfl <| wd_no 13 rfl (by kernel_rfl) rfl rfl rfl rfl <| wd_no 14 rfl (by kernel_rfl) rfl rfl rfl rfl <| wd_no 15 rfl (by kernel_rfl) rfl rfl rfl rfl <| wd_y 16 rfl (by kernel_rfl) rfl (y_pickF rfl rfl) <| wd_y 17 rfl (by kernel_rfl) rfl (y_move rfl) ?_
     refine wd_no 18 rfl (by kernel_rfl) rfl rfl rfl rfl <| wd_no 19 rfl (by kernel_rfl) rfl rfl rfl rfl <| wd_no 20 rfl (by kernel_rfl) rfl rfl rfl rfl <| wd_no 21 rfl (by kernel_rfl) rfl rfl rfl rfl <| wd_no 22 rfl (by kernel_rfl) rfl rfl rfl rfl <| wd_no 23 rfl (by kernel_rfl) rfl rfl rfl rfl <| wd_no 24 rfl (by kernel_rfl) rfl rfl rfl rfl <| wd_no 25 rfl (by kernel_rfl) rfl rfl rfl rfl <| wd_no 26 rfl (by kernel_rfl) rfl rfl rfl rfl <| wd_no 27 rfl (by kernel_rfl) rfl rfl rfl rfl <| wd_no 28 rfl (by kernel_rfl) rfl rfl rfl rfl <| wd_no 29 rfl (by kernel_rfl) rfl rfl rfl rfl <| wd_no 30 rfl (by kernel_rfl) rfl rfl rfl rfl <| wd_y 31 rfl (by kernel_rfl) rfl (y_pickF rfl rfl) <| wd_nil (by kernel_rfl) ?_
     exact ⟨(sc rfl (sc rfl (sc rfl (sc rfl (sc rfl (sc rfl (sc rfl (sc rfl (sc rfl (Sub.to rfl (mb_f (by first | omega | exact ⟨fun h => ⟨(by assumption), h⟩, fun h => h.2⟩ | exact .inl (by assumption) | exact ⟨.inr, fun h => h.resolve_left (by assumption)⟩ | exact ⟨fun h => h.resolve_left (by assumption), .inr⟩ | simp [*])) Sub.nil)))))))))), fun _ h => h⟩
   refine w_if rfl (fun hc5 => ?_) (fun hc5 => ?_)
   ·
    refine w_reg <| wm rfl rfl <| wm rfl rfl <| wm rfl rfl <| wm rfl rfl <| wm rfl rfl <| wS rfl rfl rfl (by omega) <| wr_y rfl (y_index1 underlying24 sz3 rfl rfl (rdr 1 rfl) (by omega) (by omega)) <| wr_y rfl (y_ldI underlying3 rfl rfl (rdr 1 rfl) (by omega) (by omega)) <| wr_y rfl (y_index1 underlying24 sz3 rfl rfl (rdr 0 rfl) (by first | omega | (have hm1 := joinO_mem (s := s) (n := n) (b := b) (p := p - 1) (by omega) (by omega); rw [← hD] at hm1; omega)) (by first | omega | (have hm1 := joinO_mem (s := s) (n := n) (b := b) (p := p - 1) (by omega) (by omega); rw [← hD] at hm1; omega))) ?_
    refine wr_y rfl (y_ldI underlying3 rfl rfl (rdr 0 rfl) (by first | omega | (have hm1 := joinO_mem (s := s) (n := n) (b := b) (p := p - 1) (by omega) (by omega); rw [← hD] at hm1; omega)) (by first | omega | (have hm1 := joinO_mem (s := s) (n := n) (b := b) (p := p - 1) (by omega) (by omega); rw [← hD] at hm1; omega))) ?_
    refine wr_y rfl (y_index1 underlying24 sz3 rfl rfl (rdr 0 rfl) (by omega) (by omega)) <| wr_n (a_storeI 0 rfl sz3 rfl rfl (by omega) (by omega)) ?_
    rintro _ _ rfl
    refine wr_rows (R1 := [⟨3, 1, (some ⟨g_11, 0, none⟩), l.length, l.length, ints .i64 (upd (upd V (rd D p) p) (rd D p) (rd (upd V (rd D p) p) (rd D (p - 1)))), false⟩, ⟨3, 1, A_7, (((passK (iota s.length) (onL s n b) ((((l.length : Nat) : Int) + 1)).toNat)).length), c_8, ints .i64 D, false⟩, ⟨3, 1, A_3, (((iota s.length)).length), c_4, ints .i64 (passK (iota s.length) (onL s n b) ((((l.length : Nat) : Int) + 1)).toNat), false⟩, ⟨3, 1, (some ⟨g_2, 0, none⟩), l.length, l.length, ints .i64 (onL s n b), false⟩, ⟨3, 1, (some ⟨g_1, 0, none⟩), l.length, l.length, ints .i64 (iota s.length), false⟩]) rfl <| wr_nil <| w_reg <| wA rfl rfl rfl (by omega) <| wm rfl rfl <| wr_nil ?_
    exact ⟨p + 1, D, upd (upd V (rd D p) p) (rd D p) (rd (upd V (rd D p) p) (rd D (p - 1))), ⟨(by omega), (by omega), (by omega), (by rw [upd_length, upd_length]; exact hVl), (by subst hD; exact join_true hn hb hp0 (by omega) hVl hV (by rw [← hl, and_assoc]; exact hc5))⟩, (by omega), (sc rfl (sc rfl (sc rfl (sc rfl (sc rfl (sc rfl (sc rfl Sub.nil))))))), fun _ h => h⟩
   ·
    refine w_skip <| w_reg <| wA rfl rfl rfl (by omega) <| wm rfl rfl <| wr_nil ?_
    exact ⟨p + 1, D, upd V (rd D p) p, ⟨(by omega), (by omega), (by omega), (by rw [upd_length]; exact hVl), (by subst hD; exact join_false hn hb hp0 (by omega) hVl hV (by rw [← hl, and_assoc]; exact hc5))⟩, (by omega), (sc rfl (sc rfl (sc rfl (sc rfl (sc rfl (sc rfl (sc rfl Sub.nil))))))), fun _ h => h⟩
  ·
   refine w_exit <| wq <| wm rfl rfl <| wm rfl rfl <| wg rfl rfl <| wg rfl rfl <| wr_nil <| w_retR (R1 := [⟨3, 1, (some ⟨g_11, 0, none⟩), l.length, l.length, ints .i64 V, false⟩, ⟨3, 1, A_7, (((passK (iota s.length) (onL s n b) ((((l.length : Nat) : Int) + 1)).toNat)).length), c_8, ints .i64 D, false⟩]) (fun _ h => h.sel [0, 1] (by decide) rfl) ?_
   refine ⟨_, _, rfl, rfl, ?_⟩
   have e2 : V = rkL s (n + b) := join_done hVl (fun q h1 h2 => by have := hV q h1 (by omega); rw [hD] at this; exact this)
   subst e2
   subst hD
   rw [hlen1, hll]
   exact ⟨_, _, _, _, rfl, rfl⟩

end Go.Proofs.YtdfcnalkdlifiaaGreat

/-! ## G3 -/
namespace Go.Proofs.YtdfcnalkdlifiaaGreat
open Go Go.Eng Go.Pure
open Tryz
set_option linter.unusedVariables false
set_option maxRecDepth 100000 in
theorem values_ct {B : Nat} {w0 : World} {R : List Row} {A_s : Option Addr} {n_s c_s : Nat} :
  Ct Tryz.prog 161 #[.slice A_s n_s c_s] B w0 R (fun v R' => ∃ g, v = .func (.func 175) #[] #[.pointer (some ⟨g, 0, none⟩)] ∧ R' = ⟨24, 1, some ⟨g, 0, none⟩, 1, 1, [.slice A_s n_s c_s], false⟩ :: R) := by
 refine fn1 Tryz.func161 rfl rfl rfl ?_
 refine wq <| wr_a rfl (a_box (sz := 1) rfl rfl) ?_
 rintro _ _ ⟨g, rfl, rfl⟩
 refine wg rfl rfl <| wr_nil <| wq <| wr_y rfl (y_makeFunc rfl rfl) <| wg rfl rfl <| wr_nil <| w_ret ?_
 exact ⟨_, rfl, g, rfl, rfl⟩

set_option maxRecDepth 100000 in
theorem backward_ct {B : Nat} {w0 : World} {R : List Row} {A_s : Option Addr} {n_s c_s : Nat} :
  Ct Tryz.prog 39 #[.slice A_s n_s c_s] B w0 R (fun v R' => ∃ g, v = .func (.func 68) #[] #[.pointer (some ⟨g, 0, none⟩)] ∧ R' = ⟨24, 1, some ⟨g, 0, none⟩, 1, 1, [.slice A_s n_s c_s], false⟩ :: R) := by
 refine fn1 Tryz.func39 rfl rfl rfl ?_
 refine wq <| wr_a rfl (a_box (sz := 1) rfl rfl) ?_
 rintro _ _ ⟨g, rfl, rfl⟩
 refine wg rfl rfl <| wr_nil <| wq <| wr_y rfl (y_makeFunc rfl rfl) <| wg rfl rfl <| wr_nil <| w_ret ?_
 exact ⟨_, rfl, g, rfl, rfl⟩

theorem take_one {l : List Int} {k : Nat} (h : k < l.length) : l.take k ++ [rd l (k : Int)] = l.take (k + 1) := by
 rw [List.take_add_one, List.getElem?_eq_getElem h, rd, Int.toNat_natCast, List.getD_eq_getElem?_getD, List.getElem?_eq_getElem h]; rfl
set_option maxRecDepth 100000 in
theorem appendSeq_ct {w : World} {A_s : Option Addr} {n_s c_s Bs : Nat} {s : List Int} (h_s : Rd w A_s n_s c_s 1 (ints .i64 s)) (h_b : Rd w (some ⟨Bs, 0, none⟩) 1 1 1 [.slice A_s n_s c_s]) (hN : s.length ≤ 1000000) :
  Ct Tryz.prog 179 #[.slice none 0 0, .func (.func 175) #[] #[.pointer (some ⟨Bs, 0, none⟩)]] w.heap.size w [] (fun v R' => ∃ A c, v = .slice A (s).length c ∧ R' = [⟨3, 1, A, (s).length, c, ints .i64 (s), false⟩]) := by
 refine fnV Tryz.func179 rfl rfl ?_
 obtain rfl := h_s.lenI
 refine v_seqW ?_
 refine w_reg <| wr_a rfl (a_box (sz := 1) rfl rfl) ?_
 rintro _ _ ⟨g_1, rfl, rfl⟩
 refine wr_sub (R1 := [⟨3, 1, none, 0, 0, ints .i64 ([]), false⟩, ⟨24, 1, (some ⟨g_1, 0, none⟩), 1, 1, [.slice none 0 0], false⟩]) (Sub.refl _) (fun _ h => h.nil 3 1) <| wr_rows (R1 := [⟨3, 1, none, 0, 0, ints .i64 ([]), false⟩, ⟨24, 1, (some ⟨g_1, 0, none⟩), 1, 1, [.slice none 0 0], false⟩]) rfl <| wg rfl rfl <| wr_nil ?_
 refine v_seq ?_
 refine v_seqW ?_
 refine w_reg <| wm rfl rfl <| wr_nil ?_
 refine v_block ?_
 refine v_range4 rfl en175 (vals0_ints (A := A_s) (c := c_s) (zs := s)) rfl (fun _ => rfl) Gd.refl (fun (kr : Nat) (A1 : Option Addr) (n1 : Nat) (c1 : Nat) (acc : List Int) => [⟨3, 1, A1, n1, c1, ints .i64 acc, false⟩, ⟨24, 1, (some ⟨g_1, 0, none⟩), 1, 1, [.slice A1 n1 c1], false⟩]) (fun (kr : Nat) (A1 : Option Addr) (n1 : Nat) (c1 : Nat) (acc : List Int) => (n1 = acc.length) ∧ (acc = s.take kr)) ?_ ?_ ?_ ?_
 ·
  exact ⟨none, 0, 0, [], ⟨(rfl), (List.take_zero.symm)⟩, fun _ h => h⟩
 ·
  intro kr A1 n1 c1 acc w ⟨hn1, hacc⟩ hw
  exact ⟨(h_b.c _) w hw, (h_s.c _) w hw⟩
 ·
  intro lr kr A1 n1 c1 acc WW1 hkr ⟨hn1, hacc⟩ hbW1
  have hl1 : acc.length ≤ s.length := by rw [hacc, List.length_take]; omega
  refine w_reg <| wg rfl rfl <| wr_nil ?_
  intro WW13 hbW13
  refine w_block <| w_reg <| wr_y rfl (y_ldIn (rdR 1 (r := ⟨24, 1, (some ⟨g_1, 0, none⟩), 1, 1, [.slice A1 n1 c1], false⟩) rfl) underlying24 rfl rfl rfl) <| wm rfl rfl <| wr_a rfl (a_litI .i64 [rd s (kr : Int)] underlying24 zs3 rfl rfl rfl) ?_
  rintro _ _ ⟨g_4, rfl, rfl⟩
  refine wr_a rfl (a_appendI 1 rfl underlying24 zb3 rfl rfl rfl (rdr 0 rfl) (by omega)) ?_
  rintro _ _ ⟨A_5, c_6, rfl, rfl⟩
  refine wr_rows (R1 := [⟨3, 1, (some ⟨g_4, 0, none⟩), 1, 1, ints .i64 ([rd s (kr : Int)]), false⟩, ⟨3, 1, A_5, (n1 + 1), c_6, ints .i64 (acc ++ ([rd s (kr : Int)])), false⟩, ⟨24, 1, (some ⟨g_1, 0, none⟩), 1, 1, [.slice A1 n1 c1], false⟩]) rfl <| wr_as (v := .slice A_5 (n1 + 1) c_6) rfl <| wr_n (a_storeAt 2 rfl rfl rfl sz24 rfl rfl rfl rfl (Nat.le_of_ble_eq_true rfl)) ?_
  rintro _ _ rfl
  refine wr_rows (R1 := [⟨3, 1, (some ⟨g_4, 0, none⟩), 1, 1, ints .i64 ([rd s (kr : Int)]), false⟩, ⟨3, 1, A_5, (n1 + 1), c_6, ints .i64 (acc ++ ([rd s (kr : Int)])), false⟩, ⟨24, 1, (some ⟨g_1, 0, none⟩), 1, 1, [.slice A_5 (n1 + 1) c_6], false⟩]) rfl <| wr_nil ?_
  exact ⟨A_5, (n1 + 1), c_6, acc ++ ([rd s (kr : Int)]), ⟨(by rw [List.length_append, hn1]; try rfl), (by rw [hacc]; exact take_one hkr)⟩, fun _ => fun _ h => h.sel [1, 2] (by decide) rfl⟩
 intro WW15 DW1 A1 n1 c1 acc ⟨hn1, hacc⟩ hbW15 hGW15
 refine v_goB ?_
 refine v_go ?_
 refine v_w ?_
 refine wq <| wr_y rfl (y_ldIn (rdR 1 (r := ⟨24, 1, (some ⟨g_1, 0, none⟩), 1, 1, [.slice A1 n1 c1], false⟩) rfl) underlying24 rfl rfl rfl) <| wg rfl rfl <| wr_nil <| w_retR (R1 := [⟨3, 1, A1, n1, c1, ints .i64 acc, false⟩]) (fun _ h => h.sel [0] (by decide) rfl) ?_
 refine fin1 rfl hGW15 ⟨_, rfl, ?_⟩
 rw [List.take_length] at hacc
 subst hn1
 subst hacc
 exact ⟨_, _, rfl, rfl⟩

set_option maxRecDepth 100000 in
theorem collect_ct {w : World} {A_s : Option Addr} {n_s c_s Bs : Nat} {s : List Int} (h_s : Rd w A_s n_s c_s 1 (ints .i64 s)) (h_b : Rd w (some ⟨Bs, 0, none⟩) 1 1 1 [.slice A_s n_s c_s]) (hN : s.length ≤ 1000000) :
  Ct Tryz.prog 173 #[.func (.func 175) #[] #[.pointer (some ⟨Bs, 0, none⟩)]] w.heap.size w [] (fun v R' => ∃ A c, v = .slice A (s).length c ∧ R' = [⟨3, 1, A, (s).length, c, ints .i64 (s), false⟩]) := by
 refine fn1 Tryz.func173 rfl rfl rfl ?_
 refine wq <| wg rfl rfl <| wr_nil <| wq <| wm rfl rfl <| wr_a rfl (a_callF en179 rfl (Ct.fresh (fun w hw => appendSeq_ct ((h_s.c _) w hw) ((h_b.c _) w hw) (by omega)))) ?_
 rintro _ _ ⟨_, rfl, A_1, c_2, rfl, rfl⟩
 refine wg rfl rfl <| wr_nil <| w_retR (R1 := [⟨3, 1, A_1, s.length, c_2, ints .i64 s, false⟩]) (fun _ h => h.sel [0] (by decide) rfl) ?_
 refine ⟨_, rfl, ?_⟩
 exact ⟨_, _, rfl, rfl⟩

set_option maxRecDepth 100000 in
theorem sorted_ct {w : World} {A_s : Option Addr} {n_s c_s Bs : Nat} {s : List Int} (h_s : Rd w A_s n_s c_s 1 (ints .i64 s)) (h_b : Rd w (some ⟨Bs, 0, none⟩) 1 1 1 [.slice A_s n_s c_s]) (hN : s.length ≤ 1000000) :
  Ct Tryz.prog 160 #[.func (.func 175) #[] #[.pointer (some ⟨Bs, 0, none⟩)]] w.heap.size w [] (fun v R' => ∃ A c, v = .slice A (sortL s).length c ∧ R' = [⟨3, 1, A, (sortL s).length, c, ints .i64 (sortL s), false⟩]) := by
 refine fn1 Tryz.func160 rfl rfl rfl ?_
 refine wq <| wg rfl rfl <| wr_nil <| wq <| wm rfl rfl <| wr_a rfl (a_callF en173 rfl (Ct.fresh (fun w hw => collect_ct ((h_s.c _) w hw) ((h_b.c _) w hw) (by omega)))) ?_
 rintro _ _ ⟨_, rfl, A_1, c_2, rfl, rfl⟩
 refine wg rfl rfl <| wr_nil <| wq <| wm rfl rfl <| wr_a rfl (a_callF en174 rfl (sort_ints Tryz.slices_Sort_int Tryz.slices_Sort_int_none 0 rfl (by omega))) ?_
 rintro _ _ ⟨rfl, rfl⟩
 refine wr_rows (R1 := [⟨3, 1, A_1, s.length, c_2, ints .i64 (sortL s), false⟩]) rfl <| wr_nil <| wq <| wm rfl rfl <| wg rfl rfl <| wr_nil <| w_retR (R1 := [⟨3, 1, A_1, s.length, c_2, ints .i64 (sortL s), false⟩]) (fun _ h => h.sel [0] (by decide) rfl) ?_
 refine ⟨_, rfl, ?_⟩
 have e : s.length = (sortL s).length := (sortL_perm s).length_eq.symm
 rw [e]
 exact ⟨_, _, rfl, rfl⟩

end Go.Proofs.YtdfcnalkdlifiaaGreat

/-! ## G4 -/
namespace Go.Proofs.YtdfcnalkdlifiaaGreat
open Go Go.Eng Go.Pure
open Tryz
set_option linter.unusedVariables false
theorem rkL_of {s V : List Int} {h : Nat} (hl : V.length = s.length) (hV : ∀ j : Int, 0 ≤ j → j < s.length → rd V j = rkS s h j.toNat) : V = rkL s h :=
 list_ext_rd (hl.trans (rkL_len s h).symm) fun j h1 h2 => by rw [rd_rkL h1 (by omega)]; exact hV j h1 (by omega)
set_option maxRecDepth 100000 in
theorem ranks1_ct {w : World} {A_s : Option Addr} {n_s c_s : Nat} {s : List Int} (h_s : Rd w A_s n_s c_s 1 (ints .i64 s)) (hN : s.length ≤ 100000) :
  Ct Tryz.prog 155 #[.slice A_s n_s c_s] w.heap.size w [] (fun v R' => ∃ A c, v = .slice A (s.length) c ∧ R' = [⟨3, 1, A, s.length, c, ints .i64 (rkL s 1), false⟩]) := by
 obtain rfl := h_s.lenI
 refine fn1 Tryz.func155 rfl rfl rfl ?_
 have m_s := h_s.max
 refine wq <| wg rfl rfl <| wr_nil <| wq <| wm rfl rfl <| wr_a rfl (a_callF en161 rfl (values_ct)) ?_
 rintro _ _ ⟨g_1, rfl, rfl⟩
 refine wr_a rfl (a_callF en160 rfl (Ct.fresh (fun w hw => sorted_ct ((h_s.c _) w hw) ((rdR 0 (r := ⟨24, 1, (some ⟨g_1, 0, none⟩), 1, 1, [.slice A_s s.length c_s], false⟩) rfl) w hw) (by omega)))) ?_
 rintro _ _ ⟨_, rfl, A_3, c_4, rfl, rfl⟩
 refine wg rfl rfl <| wr_nil <| wq <| wm rfl rfl <| wr_y rfl (y_len underlying24 rfl) <| wr_a rfl (a_makeN underlying24 zb3 rfl rfl (by omega) (by omega) (by omega)) ?_
 rintro _ _ ⟨g_7, rfl, rfl⟩
 refine wr_rows (R1 := [⟨3, 1, (some ⟨g_7, 0, none⟩), s.length, s.length, ints .i64 (List.replicate s.length (0 : Int)), false⟩, ⟨3, 1, A_3, (sortL s).length, c_4, ints .i64 (sortL s), false⟩, ⟨24, 1, (some ⟨g_1, 0, none⟩), 1, 1, [.slice A_s s.length c_s], false⟩]) rfl <| wr_as (v := .slice (some ⟨g_7, 0, none⟩) s.length s.length) rfl <| wg rfl rfl <| wr_nil <| w_seq <| wq <| wm rfl rfl <| wr_y rfl (y_len underlying24 rfl) <| wm rfl rfl <| wr_nil <| w_block ?_
 refine w_loop2 (fun (i : Int) (V : List Int) => [(3, .slice A_3 ((sortL s).length) c_4), (4, .slice (some ⟨g_7, 0, none⟩) s.length s.length), (13, .slice A_s s.length c_s), (14, .int .i64 ((s.length : Nat) : Int)), (15, .int .i64 i)]) (fun (i : Int) (V : List Int) => [⟨3, 1, (some ⟨g_7, 0, none⟩), s.length, s.length, ints .i64 V, false⟩, ⟨3, 1, A_3, (sortL s).length, c_4, ints .i64 (sortL s), false⟩, ⟨24, 1, (some ⟨g_1, 0, none⟩), 1, 1, [.slice A_s s.length c_s], false⟩]) (fun (i : Int) (V : List Int) => (0 ≤ i) ∧ (i ≤ s.length) ∧ (V.length = s.length) ∧ (∀ j : Int, 0 ≤ j → j < i → rd V j = rkS s 1 j.toNat)) (fun (i : Int) (V : List Int) => (s.length - i).toNat) ?_ ?_
 ·
  exact ⟨0, List.replicate s.length (0 : Int), ⟨(by omega), (by omega), (by rw [List.length_replicate]), (fun j h1 h2 => by omega)⟩, (sc rfl (sc rfl (sc rfl (sc rfl (sc rfl Sub.nil))))), fun _ h => h⟩
 intro i V ⟨hi0, hi1, hVl, hV⟩
 refine wq <| wL rfl rfl rfl <| wr_nil <| w_seq <| w_if rfl (fun hc1 => ?_) (fun hc1 => ?_)
 ·
  refine w_skip <| w_seq <| w_block <| wq <| wm rfl rfl <| wr_y rfl (y_index1 underlying24 sz3 rfl rfl (h_s.c _) (by omega) (by omega)) <| wr_y rfl (y_ldI underlying3 rfl rfl (h_s.c _) (by omega) (by omega)) <| wg rfl rfl <| wg rfl rfl <| wr_nil <| w_reg <| wm rfl rfl <| wm rfl rfl <| wm rfl rfl ?_
  refine wm rfl rfl <| wr_a rfl (a_callF en171 rfl (find_ints Tryz.slices_BinarySearch_int Tryz.slices_BinarySearch_int_empty 1 rfl (by rw [(sortL_perm s).length_eq]; omega) (sortL_sorted s))) ?_
  rintro _ _ ⟨rfl, rfl⟩
  refine wm rfl rfl <| wX rfl rfl rfl <| wX rfl rfl rfl <| wr_y rfl (y_index1 underlying24 sz3 rfl rfl (rdr 0 rfl) (by omega) (by omega)) <| wr_n (a_storeI 0 rfl sz3 rfl rfl (by omega) (by omega)) ?_
  rintro _ _ rfl
  refine wr_rows (R1 := [⟨3, 1, (some ⟨g_7, 0, none⟩), s.length, s.length, ints .i64 (upd V i (((sortL s).countP fun y => decide (y < rd s i) : Nat) : Int)), false⟩, ⟨3, 1, A_3, (sortL s).length, c_4, ints .i64 (sortL s), false⟩, ⟨24, 1, (some ⟨g_1, 0, none⟩), 1, 1, [.slice A_s s.length c_s], false⟩]) rfl <| wr_nil <| w_reg <| wA rfl rfl rfl (by omega) <| wm rfl rfl <| wr_nil ?_
  exact ⟨i + 1, upd V i (((sortL s).countP fun y => decide (y < rd s i) : Nat) : Int), ⟨(by omega), (by omega), (by rw [upd_length]; exact hVl), (fill_step (f := fun j => (rkS s 1 j.toNat : Int)) hi0 (by omega) hV (by rw [rk_one (by omega), (sortL_perm s).countP_eq]; rfl))⟩, (by omega), (sc rfl (sc rfl (sc rfl (sc rfl (sc rfl Sub.nil))))), fun _ h => h⟩
 ·
  refine w_exit <| wq <| wm rfl rfl <| wg rfl rfl <| wr_nil <| w_retR (R1 := [⟨3, 1, (some ⟨g_7, 0, none⟩), s.length, s.length, ints .i64 V, false⟩]) (fun _ h => h.sel [0] (by decide) rfl) ?_
  refine ⟨_, rfl, ?_⟩
  obtain rfl : V = rkL s 1 := rkL_of hVl (fun j h1 h2 => hV j h1 (by omega))
  exact ⟨_, _, rfl, rfl⟩

set_option maxRecDepth 100000 in
set_option maxHeartbeats 400000 in
theorem ranks15_ct {w : World} {A_s : Option Addr} {n_s c_s : Nat} {s : List Int} {h : Int} (h_s : Rd w A_s n_s c_s 1 (ints .i64 s)) (h0 : 0 ≤ h) (hN : s.length ≤ 100000) :
  Ct Tryz.prog 140 #[.slice A_s n_s c_s, .int .i64 h] w.heap.size w [] (fun v R' => ∃ A c, v = .slice A (s.length) c ∧ R' = [⟨3, 1, A, s.length, c, ints .i64 (rkL s h.toNat), false⟩]) := by
 obtain rfl := h_s.lenI
 refine fn1 Tryz.func140 rfl rfl rfl ?_
 have m_s := h_s.max
 refine wq <| wg rfl rfl <| wr_nil <| w_seq <| wq <| wm rfl rfl <| wL rfl rfl rfl <| wm rfl rfl <| wr_mid 4 [(0, .slice A_s s.length c_s), (1, .int .i64 h), (14, .bool (decide ((h < 0) ∨ (100000 < ((s.length : Nat) : Int)))))] [] ?_ ?_
 ·
  refine wr_case 10 rfl (fun hc1 => ?_) (fun hc1 => ?_)
  ·
   refine wr_no rfl rfl rfl rfl <| wr_no rfl rfl rfl rfl <| wr_no rfl rfl rfl rfl <| wr_y rfl (y_pickT rfl rfl) <| wr_nil ?_
   exact ⟨(sc rfl (sc rfl (Sub.to rfl (mb_t (by first | omega | exact ⟨fun h => ⟨(by assumption), h⟩, fun h => h.2⟩ | exact .inl (by assumption) | exact ⟨.inr, fun h => h.resolve_left (by assumption)⟩ | exact ⟨fun h => h.resolve_left (by assumption), .inr⟩ | simp [*])) Sub.nil))), fun _ h => h⟩
  ·
   refine wr_yes rfl rfl <| wm rfl rfl <| wr_yes rfl rfl <| wr_y rfl (y_len underlying24 rfl) <| wr_yes rfl rfl <| wr_y rfl (y_gt rfl rfl) <| wr_y rfl (y_pickF rfl rfl) <| wr_nil ?_
   exact ⟨(sc rfl (sc rfl (Sub.to rfl (mb (by first | omega | exact ⟨fun h => ⟨(by assumption), h⟩, fun h => h.2⟩ | exact .inl (by assumption) | exact ⟨.inr, fun h => h.resolve_left (by assumption)⟩ | exact ⟨fun h => h.resolve_left (by assumption), .inr⟩ | simp [*])) Sub.nil))), fun _ h => h⟩
 refine wr_setF 14 rfl (by omega) <| wr_nil <| w_false rfl <| w_skip <| wq <| wm rfl rfl <| wr_y rfl (y_len underlying24 rfl) <| wr_a rfl (a_makeN underlying24 zb3 rfl rfl (by omega) (by omega) (by omega)) ?_
 rintro _ _ ⟨g_2, rfl, rfl⟩
 refine wr_rows (R1 := [⟨3, 1, (some ⟨g_2, 0, none⟩), s.length, s.length, ints .i64 (List.replicate s.length (0 : Int)), false⟩]) rfl <| wr_as (v := .slice (some ⟨g_2, 0, none⟩) s.length s.length) rfl <| wg rfl rfl <| wr_nil <| w_seq <| wq <| wm rfl rfl <| wr_y rfl (y_eq rfl rfl) <| wr_nil <| w_if rfl (fun hc2 => ?_) (fun hc2 => ?_)
 ·
  refine wq <| wm rfl rfl <| wg rfl rfl <| wr_nil <| w_retR (R1 := [⟨3, 1, (some ⟨g_2, 0, none⟩), s.length, s.length, ints .i64 (List.replicate s.length (0 : Int)), false⟩]) (fun _ h => h.sel [0] (by decide) rfl) ?_
  refine ⟨_, rfl, ?_⟩
  have e : h.toNat = 0 := by omega
  rw [e, rkL_zero]
  exact ⟨_, _, rfl, rfl⟩
 ·
  refine w_skip <| wq <| wm rfl rfl <| wr_a rfl (a_callF en155 rfl (Ct.fresh (fun w hw => ranks1_ct ((h_s.c _) w hw) (by first | assumption | omega | decide)))) ?_
  rintro _ _ ⟨_, rfl, A_4, c_5, rfl, rfl⟩
  refine wg rfl rfl <| wr_nil <| wq <| wm rfl rfl <| wm rfl rfl <| wr_y rfl (y_len underlying24 rfl) <| wr_y rfl (y_min rfl rfl) <| wg rfl rfl <| wr_nil <| w_seq <| wq <| wg rfl rfl <| wr_nil ?_
  refine w_block ?_
  refine w_loop4 (fun (n : Int) (A1 : Option Addr) (c1 : Nat) (L : List Int) => [(1, .int .i64 (min h ((s.length : Nat) : Int))), (5, .slice A1 s.length c1), (6, .int .i64 n)]) (fun (n : Int) (A1 : Option Addr) (c1 : Nat) (L : List Int) => [⟨3, 1, A1, s.length, c1, ints .i64 L, false⟩, ⟨3, 1, (some ⟨g_2, 0, none⟩), s.length, s.length, ints .i64 (List.replicate s.length (0 : Int)), false⟩]) (fun (n : Int) (A1 : Option Addr) (c1 : Nat) (L : List Int) => (1 ≤ n) ∧ (n = 1 ∨ n ≤ min h (s.length : Int)) ∧ (L = rkL s n.toNat)) (fun (n : Int) (A1 : Option Addr) (c1 : Nat) (L : List Int) => (min h (s.length : Int) - n).toNat) ?_ ?_
  ·
   exact ⟨1, A_4, c_5, rkL s 1, ⟨(by omega), (by omega), (rfl)⟩, (sc rfl (sc rfl (sc rfl Sub.nil))), fun _ h => h⟩
  intro n A1 c1 L ⟨hn1, hn2, hL⟩
  refine w_seq <| wq <| wm rfl rfl <| wm rfl rfl <| wL rfl rfl rfl <| wr_nil <| w_if rfl (fun hc3 => ?_) (fun hc3 => ?_)
  ·
   refine w_skip <| w_block <| wq <| wm rfl rfl <| wm rfl rfl <| wm rfl rfl <| wS rfl rfl rfl (by omega) <| wr_y rfl (y_min rfl rfl) <| wg rfl rfl <| wr_nil <| wq <| wm rfl rfl <| wm rfl rfl ?_
   refine wr_a rfl (a_callF en156 rfl (Ct.fresh (fun w hw => joined_ct (s := s) (n := n.toNat) (b := (min n (min h (s.length : Int) - n)).toNat) ((rdr 0 rfl) w hw) hL (by omega) (by omega) (by omega) ⟨hN, by omega⟩))) ?_
   rintro _ _ ⟨_, rfl, A_8, c_9, A_10, c_11, rfl, rfl⟩
   refine wm rfl rfl <| wX rfl rfl rfl <| wX rfl rfl rfl <| wg rfl rfl <| wr_nil <| w_reg <| wm rfl rfl <| wm rfl rfl <| wA rfl rfl rfl (by omega) <| wg rfl rfl <| wr_nil ?_
   exact ⟨n + (min n ((min h ((s.length : Nat) : Int)) - n)), A_8, c_9, rkL s (n.toNat + (min n (min h (s.length : Int) - n)).toNat), ⟨(by omega), (by omega), (by congr 1; omega)⟩, (by omega), (sc rfl (sc rfl (sc rfl Sub.nil))), fun _ h => h.sel [0, 3] (by decide) rfl⟩
  ·
   refine w_exit <| wq <| wm rfl rfl <| wg rfl rfl <| wr_nil <| w_retR (R1 := [⟨3, 1, A1, s.length, c1, ints .i64 L, false⟩]) (fun _ h => h.sel [0] (by decide) rfl) ?_
   refine ⟨_, rfl, ?_⟩
   have e : rkL s n.toNat = rkL s h.toNat := by
    rcases Nat.eq_zero_or_pos s.length with z | z
    ·exact rkL_none z _ _
    ·rcases Int.lt_or_le h s.length with a | a
     ·rw [show n.toNat = h.toNat by omega]
     ·rw [rk_cap (h := h.toNat) (by omega), show n.toNat = s.length by omega]
   rw [hL, e]
   exact ⟨_, _, rfl, rfl⟩

set_option maxRecDepth 100000 in
theorem ints15_ct {w : World} {A_s : Option Addr} {n_s c_s : Nat} {s : List Int} {k : Int} (h_s : Rd w A_s n_s c_s 1 (ints .i64 s)) (hok : (0 ≤ k ∧ k ≤ 1048576) ∧ ∀ x ∈ s, 0 ≤ x ∧ x < k) (hN : s.length ≤ 100000) :
  Ct Tryz.prog 108 #[.slice A_s n_s c_s, .int .i64 k] w.heap.size w [] (fun v R' => ∃ (out : List Int) (A : Option Addr) (c : Nat), v = .tuple #[.slice A s.length c, .int .i64 0] ∧ out.length = s.length ∧ (∀ q : Nat, q < s.length → rd out (rkS s s.length q) = q) ∧ R' = [⟨3, 1, A, s.length, c, ints .i64 out, false⟩]) := by
 obtain rfl := h_s.lenI
 refine fn2 Tryz.func108 rfl rfl rfl ?_
 have m_s := h_s.max
 refine wq <| wg rfl rfl <| wg rfl rfl <| wr_nil <| w_seq <| wq <| wm rfl rfl <| wr_y rfl (y_len underlying24 rfl) <| wr_y rfl (Yl.f (y_gt rfl rfl) (by omega)) <| wr_nil <| w_false rfl <| w_skip <| w_seq ?_
 refine wq <| wm rfl rfl <| wm rfl rfl <| wr_a rfl (a_callF en94 rfl (Ct.fresh (fun w hw => countsOk_ct ((h_s.c _) w hw) (by first | assumption | omega | decide)))) ?_
 rintro _ _ ⟨_, rfl, A_1, c_2, rfl, rfl⟩
 refine wm rfl rfl <| wX rfl rfl rfl <| wX rfl rfl rfl <| wg rfl rfl <| wg rfl rfl <| wr_nil <| wq <| wm rfl rfl <| wr_y rfl (y_not rfl) <| wr_nil <| w_false rfl <| w_skip <| wq ?_
 refine wm rfl rfl <| wr_y rfl (y_len underlying24 rfl) <| wr_a rfl (a_makeN underlying24 zb3 rfl rfl (by omega) (by omega) (by omega)) ?_
 rintro _ _ ⟨g_4, rfl, rfl⟩
 refine wr_rows (R1 := [⟨3, 1, (some ⟨g_4, 0, none⟩), s.length, s.length, ints .i64 (List.replicate s.length (0 : Int)), false⟩, ⟨3, 1, A_1, ((k).toNat), c_2, ints .i64 (cntV s k), false⟩]) rfl <| wr_as (v := .slice (some ⟨g_4, 0, none⟩) s.length s.length) rfl <| wg rfl rfl <| wr_nil <| w_seq <| wq <| wm rfl rfl <| wm rfl rfl <| wr_y rfl (y_len underlying24 rfl) <| wr_a rfl (a_callF en140 rfl (Ct.fresh (fun w hw => ranks15_ct ((h_s.c _) w hw) (by omega) (by first | assumption | omega | decide)))) ?_
 rintro _ _ ⟨_, rfl, A_5, c_6, rfl, rfl⟩
 refine wr_y rfl (y_len underlying24 rfl) <| wm rfl rfl <| wr_nil <| w_block ?_
 refine w_loop2 (fun (i : Int) (V : List Int) => [(8, .slice (some ⟨g_4, 0, none⟩) s.length s.length), (28, .slice A_5 ((s).length) c_6), (29, .int .i64 (((s).length : Nat) : Int)), (30, .int .i64 i)]) (fun (i : Int) (V : List Int) => [⟨3, 1, A_5, ((s).length), c_6, ints .i64 (rkL s (((s.length : Nat) : Int)).toNat), false⟩, ⟨3, 1, (some ⟨g_4, 0, none⟩), s.length, s.length, ints .i64 V, false⟩, ⟨3, 1, A_1, ((k).toNat), c_2, ints .i64 (cntV s k), false⟩]) (fun (i : Int) (V : List Int) => (0 ≤ i) ∧ (i ≤ s.length) ∧ (V.length = s.length) ∧ (∀ q : Nat, (q : Int) < i → rd V (rkS s s.length q) = q)) (fun (i : Int) (V : List Int) => (s.length - i).toNat) ?_ ?_
 ·
  exact ⟨0, List.replicate s.length (0 : Int), ⟨(by omega), (by omega), (by rw [List.length_replicate]), (fun q h => by omega)⟩, (sc rfl (sc rfl (sc rfl (sc rfl Sub.nil)))), fun _ h => h⟩
 intro i V ⟨hi0, hi1, hVl, hV⟩
 refine wq <| wL rfl rfl rfl <| wr_nil <| w_seq <| w_if rfl (fun hc1 => ?_) (fun hc1 => ?_)
 ·
  have hr : rd (rkL s ((s.length : Nat) : Int).toNat) i = (rkS s s.length i.toNat : Int) := by rw [Int.toNat_natCast]; exact rd_rkL hi0 (by omega)
  have ht := rkS_top (s := s) (h := s.length) (i := i.toNat) (by omega)
  refine w_skip <| w_seq <| w_block <| wq <| wm rfl rfl <| wr_y rfl (y_index1 underlying24 sz3 rfl rfl (rdr 0 rfl) (by omega) (by omega)) <| wr_y rfl (y_ldI underlying3 rfl rfl (rdr 0 rfl) (by omega) (by omega)) <| wg rfl rfl <| wg rfl rfl <| wr_nil <| w_reg <| wm rfl rfl <| wm rfl rfl <| wm rfl rfl ?_
  refine wr_y rfl (y_index1 underlying24 sz3 rfl rfl (rdr 1 rfl) (by rw [hr]; omega) (by rw [hr]; omega)) ?_
  refine wr_n (a_storeI 1 rfl sz3 rfl rfl (by rw [hr]; omega) (by rw [hr]; omega)) ?_
  rintro _ _ rfl
  refine wr_rows (R1 := [⟨3, 1, A_5, ((s).length), c_6, ints .i64 (rkL s (((s.length : Nat) : Int)).toNat), false⟩, ⟨3, 1, (some ⟨g_4, 0, none⟩), s.length, s.length, ints .i64 (upd V (rd (rkL s (((s.length : Nat) : Int)).toNat) i) i), false⟩, ⟨3, 1, A_1, ((k).toNat), c_2, ints .i64 (cntV s k), false⟩]) rfl <| wr_nil <| w_reg <| wA rfl rfl rfl (by omega) <| wm rfl rfl <| wr_nil ?_
  exact ⟨i + 1, upd V (rd (rkL s (((s.length : Nat) : Int)).toNat) i) i, ⟨(by omega), (by omega), (by rw [upd_length]; exact hVl), (fun q h => by
    rw [hr]
    have := places_step (m := i.toNat) (by omega) hVl (fun q h => hV q (by omega)) q (by omega)
    rwa [show ((i.toNat : Nat) : Int) = i by omega] at this)⟩, (by omega), (sc rfl (sc rfl (sc rfl (sc rfl Sub.nil)))), fun _ h => h⟩
 ·
  refine w_exit <| wq <| wm rfl rfl <| wg rfl rfl <| wg rfl rfl <| wr_nil <| w_retR (R1 := [⟨3, 1, (some ⟨g_4, 0, none⟩), s.length, s.length, ints .i64 V, false⟩]) (fun _ h => h.sel [1] (by decide) rfl) ?_
  refine ⟨_, _, rfl, rfl, ?_⟩
  exact ⟨V, _, _, rfl, hVl, fun q h => hV q (by omega), rfl⟩

set_option maxRecDepth 100000 in
theorem bytes15_ct {w : World} {A_u : Option Addr} {n_u c_u : Nat} {u : List Int} (h_u : Rd w A_u n_u c_u 1 (ints .u8 u)) (bh_u : ByteL u) (hN : u.length ≤ 100000) :
  Ct Tryz.prog 78 #[.slice A_u n_u c_u] w.heap.size w [] (fun v R' => ∃ (out : List Int) (A : Option Addr) (c : Nat), v = .tuple #[.slice A u.length c, .int .i64 0] ∧ out.length = u.length ∧ (∀ q : Nat, q < u.length → rd out (rkS u u.length q) = q) ∧ R' = [⟨3, 1, A, u.length, c, ints .i64 out, false⟩]) := by
 obtain rfl := h_u.lenI
 refine fn2 Tryz.func78 rfl rfl rfl ?_
 have m_u := h_u.max
 refine wq <| wg rfl rfl <| wg rfl rfl <| wr_nil <| w_seq <| wq <| wm rfl rfl <| wr_y rfl (y_len underlying23 rfl) <| wr_y rfl (Yl.f (y_gt rfl rfl) (by omega)) <| wr_nil <| w_false rfl <| w_skip <| w_seq ?_
 refine w_reg <| wm rfl rfl <| wr_y rfl (y_len underlying23 rfl) <| wr_a rfl (a_makeN underlying24 zb3 rfl rfl (by omega) (by omega) (by omega)) ?_
 rintro _ _ ⟨g_1, rfl, rfl⟩
 refine wr_rows (R1 := [⟨3, 1, (some ⟨g_1, 0, none⟩), u.length, u.length, ints .i64 (List.replicate u.length (0 : Int)), false⟩]) rfl <| wr_as (v := .slice (some ⟨g_1, 0, none⟩) u.length u.length) rfl <| wg rfl rfl <| wr_nil <| w_seq <| wq <| wm rfl rfl <| wr_y rfl (y_len underlying23 rfl) <| wm rfl rfl <| wr_nil <| w_block ?_
 refine w_loop2 (fun (i : Int) (V : List Int) => [(4, .slice (some ⟨g_1, 0, none⟩) u.length u.length), (13, .slice A_u u.length c_u), (14, .int .i64 ((u.length : Nat) : Int)), (15, .int .i64 i)]) (fun (i : Int) (V : List Int) => [⟨3, 1, (some ⟨g_1, 0, none⟩), u.length, u.length, ints .i64 V, false⟩]) (fun (i : Int) (V : List Int) => (0 ≤ i) ∧ (i ≤ u.length) ∧ (V.length = u.length) ∧ (∀ j : Int, 0 ≤ j → j < i → rd V j = rd u j)) (fun (i : Int) (V : List Int) => (u.length - i).toNat) ?_ ?_
 ·
  exact ⟨0, List.replicate u.length (0 : Int), ⟨(by omega), (by omega), (by rw [List.length_replicate]), (fun j h1 h2 => by omega)⟩, (sc rfl (sc rfl (sc rfl (sc rfl Sub.nil)))), fun _ h => h⟩
 intro i V ⟨hi0, hi1, hVl, hV⟩
 refine wq <| wL rfl rfl rfl <| wr_nil <| w_seq <| w_if rfl (fun hc1 => ?_) (fun hc1 => ?_)
 ·
  have hbi := bh_u.rd i
  refine w_skip <| w_seq <| w_block <| wq <| wm rfl rfl <| wr_y rfl (y_index1 underlying23 sz5 rfl rfl (h_u.c _) (by omega) (by omega)) <| wr_y rfl (y_ldI underlying5 rfl rfl (h_u.c _) (by omega) (by omega)) <| wg rfl rfl <| wg rfl rfl <| wr_nil <| w_reg <| wm rfl rfl <| wm rfl rfl <| wm rfl rfl ?_
  refine wr_y rfl (y_convI underlying5 underlying3 rfl (by omega)) <| wr_y rfl (y_index1 underlying24 sz3 rfl rfl (rdr 0 rfl) (by omega) (by omega)) <| wr_n (a_storeI 0 rfl sz3 rfl rfl (by omega) (by omega)) ?_
  rintro _ _ rfl
  refine wr_rows (R1 := [⟨3, 1, (some ⟨g_1, 0, none⟩), u.length, u.length, ints .i64 (upd V i (rd u i)), false⟩]) rfl <| wr_nil <| w_reg <| wA rfl rfl rfl (by omega) <| wm rfl rfl <| wr_nil ?_
  exact ⟨i + 1, upd V i (rd u i), ⟨(by omega), (by omega), (by rw [upd_length]; exact hVl), (fill_step (f := fun j => rd u j) hi0 (by omega) hV rfl)⟩, (by omega), (sc rfl (sc rfl (sc rfl (sc rfl Sub.nil)))), fun _ h => h⟩
 ·
  have hVu : V = u := list_ext_rd hVl (fun j h1 h2 => hV j h1 (by omega))
  refine w_exit <| wq <| wm rfl rfl <| wr_a rfl (a_callF en108 rfl (Ct.fresh (fun w hw => ints15_ct ((rdr 0 rfl) w hw) ⟨by omega, fun x hx => by rw [hVu] at hx; have := bh_u x hx; omega⟩ (by omega)))) ?_
  rintro _ _ ⟨_, rfl, o1, A_2, c_3, rfl, hl_o1, hq_o1, rfl⟩
  refine wX rfl rfl rfl <| wX rfl rfl rfl <| wg rfl rfl <| wg rfl rfl <| wr_nil <| w_retR (R1 := [⟨3, 1, A_2, V.length, c_3, ints .i64 o1, false⟩]) (fun _ h => h.sel [0] (by decide) rfl) ?_
  refine ⟨_, _, rfl, rfl, ?_⟩
  subst hVu
  exact ⟨o1, _, _, rfl, hl_o1, hq_o1, rfl⟩

end Go.Proofs.YtdfcnalkdlifiaaGreat

/-! ## G5 -/
namespace Go.Proofs.YtdfcnalkdlifiaaGreat
open Go Go.Eng Go.Pure
open Tryz
set_option linter.unusedVariables false
set_option maxRecDepth 100000 in
theorem ints4_ct {w : World} {A_l : Option Addr} {n_l c_l : Nat} {l : List Int} {A_m : Option Addr} {n_m c_m : Nat} {m : List Int} (h_l : Rd w A_l n_l c_l 1 (ints .i64 l)) (h_m : Rd w A_m n_m c_m 1 (ints .i64 m)) (hN : l.length ≤ 1000000) :
  Ct Tryz.prog 14 #[.slice A_l n_l c_l, .slice A_m n_m c_m] w.heap.size w [] (fun v R' => v = .bool (decide (l = m))) := by
 obtain rfl := h_l.lenI
 obtain rfl := h_m.lenI
 refine fn1 Tryz.func14 rfl rfl rfl ?_
 have m_l := h_l.max
 have m_m := h_m.max
 refine wq <| wg rfl rfl <| wr_nil <| w_seq <| wq <| wm rfl rfl <| wr_y rfl (y_len underlying24 rfl) <| wm rfl rfl <| wr_y rfl (y_len underlying24 rfl) <| wr_y rfl (y_ne rfl rfl) <| wr_nil <| w_if rfl (fun hc1 => ?_) (fun hc1 => ?_)
 ·
  refine wq <| wg rfl rfl <| wr_nil <| w_ret ?_
  refine ⟨_, rfl, ?_⟩
  exact congrArg Value.bool (decide_eq_false (fun e => by rw [e] at hc1; exact hc1 rfl)).symm
 ·
  refine w_skip <| w_seq <| wq <| wg rfl rfl <| wr_nil <| w_block ?_
  refine w_loop1 (fun (k : Int) => [(0, .slice A_l l.length c_l), (1, .slice A_m m.length c_m), (5, .int .i64 k)]) (fun (k : Int) => []) (fun (k : Int) => (0 ≤ k) ∧ (k ≤ l.length) ∧ (l.take k.toNat = m.take k.toNat)) (fun (k : Int) => (l.length - k).toNat) ?_ ?_
  ·
   exact ⟨0, ⟨(by omega), (by omega), (rfl)⟩, (sc rfl (sc rfl (sc rfl Sub.nil))), fun _ h => h⟩
  intro k ⟨hk0, hk1, hq⟩
  refine w_seq <| wq <| wm rfl rfl <| wm rfl rfl <| wr_y rfl (y_len underlying24 rfl) <| wL rfl rfl rfl <| wr_nil <| w_if rfl (fun hc2 => ?_) (fun hc2 => ?_)
  ·
   refine w_skip <| w_seq <| w_block <| w_seq <| w_regd mixed <| wd_y 0 rfl (by kernel_rfl) rfl (y_move rfl) <| wd_y 1 rfl (by kernel_rfl) rfl (y_move rfl) <| wd_y 2 rfl (by kernel_rfl) rfl (y_index1 underlying24 sz3 rfl rfl (h_l.c _) (by omega) (by omega)) <| wd_y 3 rfl (by kernel_rfl) rfl (y_ldI underlying3 rfl rfl (h_l.c _) (by omega) (by omega)) <| wd_y 4 rfl (by kernel_rfl) rfl (y_move rfl) <| wd_y 5 rfl (by kernel_rfl) rfl (y_move rfl) <| wd_y 6 rfl (by kernel_rfl) rfl (y_index1 underlying24 sz3 rfl rfl (h_m.c _) (by omega) (by omega)) <| wd_y 7 rfl (by kernel_rfl) rfl (y_ldI underlying3 rfl rfl (h_m.c _) (by omega) (by omega)) <| wd_y 8 rfl (by kernel_rfl) rfl (y_ne rfl rfl) <| wd_nil (by kernel_rfl) ?_
   refine w_if rfl (fun hc3 => ?_) (fun hc3 => ?_)
   ·
    refine wq <| wg rfl rfl <| wr_nil <| w_ret ?_
    refine ⟨_, rfl, ?_⟩
    exact congrArg Value.bool (decide_eq_false (fun e => by subst e; exact hc3 rfl)).symm
   ·
    refine w_skip <| w_reg <| wm rfl rfl <| wA rfl rfl rfl (by omega) <| wg rfl rfl <| wr_nil ?_
    exact ⟨k + 1, ⟨(by omega), (by omega), (by rw [take_rd hk0 (by omega), take_rd hk0 (by omega), hq]; exact congrArg (fun z => List.take k.toNat m ++ [z]) (Decidable.not_not.1 (by assumption)))⟩, (by omega), (sc rfl (sc rfl (sc rfl Sub.nil))), fun _ h => h⟩
  ·
   refine w_exit <| wq <| wg rfl rfl <| wr_nil <| w_ret ?_
   refine ⟨_, rfl, ?_⟩
   exact congrArg Value.bool (decide_eq_true (by rw [List.take_of_length_le (by omega), List.take_of_length_le (by omega)] at hq; exact hq)).symm

end Go.Proofs.YtdfcnalkdlifiaaGreat

/-! ## S3 -/
namespace Go.Proofs
open Go.Shelf
def Tryz.lays264_ren : Go.Shelf.Ren := ⟨fun | 264 => 73 | n => n, fun | 53 => 118 | 46 => 79 | n => n, fun | n => n⟩
def Tryz.lays212_ren : Go.Shelf.Ren := ⟨fun | 212 => 42 | 263 => 72 | 264 => 73 | n => n, fun | 46 => 79 | 51 => 115 | 146 => 116 | 53 => 118 | 148 => 119 | n => n, fun | n => n⟩
theorem Tryz.lays212 : Go.Proofs.Lays.n212 Tryz.prog Tryz.lays212_ren := {
 mixed := by kernel_rfl
 f212 := Tryz.func42.trans (congrArg some (by kernel_rfl))
 f263 := Tryz.func72.trans (congrArg some (by kernel_rfl))
 f264 := Tryz.func73.trans (congrArg some (by kernel_rfl))
 t46 := Tryz.underlying79
 a46 := Tryz.isAgg79
 z46 := Tryz.sizeOf79
 v46 := Tryz.zeroValue79
 t51 := Tryz.underlying115
 a51 := Tryz.isAgg115
 z51 := Tryz.sizeOf115
 v51 := Tryz.zeroValue115
 t53 := Tryz.underlying118
 a53 := Tryz.isAgg118
 z53 := Tryz.sizeOf118
 v53 := Tryz.zeroValue118
 t146 := Tryz.underlying116
 a146 := Tryz.isAgg116
 z146 := Tryz.sizeOf116
 v146 := Tryz.zeroValue116
 t148 := Tryz.underlying119
 a148 := Tryz.isAgg119
 z148 := Tryz.sizeOf119
 v148 := Tryz.zeroValue119 }
open Go.RowKit Go.Lib in
/-- math/bits.Mul: "Mul returns the full-width product of x and y": on a machine of 64 bits: Mul64's. (LAID: no walk: one application.) -/
theorem Tryz.bits_Mul (x y : Nat) (hx : x < 18446744073709551616) (hy : y < 18446744073709551616) (w : World) :
  Calls Tryz.prog 42 #[.int .u64 x, .int .u64 y] w fun e w' => e = .returned (.tuple #[.int .u64 ((x * y / 18446744073709551616 : Nat) : Int), .int .u64 ((x * y % 18446744073709551616 : Nat) : Int)]) ∧ w' = w := Any.bits_Mul Tryz.lays212 x y hx hy w
end Go.Proofs

/-! ## E22 -/
namespace Go.Eng
open Go Go.RowKit
section
variable {P : Program} {n : Nd} {B : Nat} {w0 : World} {L : Env} {R : List Row} {ty : TypeId}
theorem cut_addr {g lo c : Nat} (h : lo < c) : cutA (some ⟨g, 0, none⟩) lo c 1 = some ⟨g, lo, none⟩ := by
 unfold cutA
 rw [if_neg (by omega), Nat.mul_one, Option.map_some]
 unfold Addr.add
 split <;> simp_all
/-- copy(r[lo:], x): r a row of the call's own. -/
theorem a_copyI {x y : Operand} {t t2 e : TypeId} {p : Option Addr} {lo dl dc m c m2 c2 : Nat} {A A2 : Option Addr} {k : IntKind} {l src : List Int} (i : Nat) (hi : R[i]? = some ⟨e, 1, A, m, c, ints k l, false⟩) (ht : P.underlying t = some (.slice e)) (hst : (P.info? e).map (·.size) = some 1)
  (hx : ev L x = some (.slice p dl dc)) (hy : ev L y = some (.slice A2 m2 c2)) (hp : p = cutA A lo c 1) (hdl : dl = m - lo) (hlo : lo < m) (hrd : RdC B w0 R A2 m2 c2 1 (ints k src)) :
  Ac P n B w0 (.call { callee := .builtin .copy, args := #[x, y], argTypes := #[t, t2] }) ty L R (fun v R' => v = .int .i64 ((min m2 (m - lo) : Nat) : Int) ∧ R' = R.set i ⟨e, 1, A, m, c, ints k (l.take lo ++ src.take (min m2 (m - lo)) ++ l.drop (lo + min m2 (m - lo))), false⟩) := by
 intro a w o K Q ho hty hs hw hk
 have hown := Row.lies_w (hw.own _ (List.mem_of_getElem? hi)) rfl
 have hr2 := hrd w hw
 have hm2 : m2 = src.length := hr2.lenI
 have hl : m = l.length := by have := hown.1; rw [ints_length] at this; simp only at this; omega
 rcases hown.2 with ⟨_, hn⟩ | ⟨g, cap, cur, hv, hb, hg, hnc, hcm, hcs, htk⟩
 ·simp only at hn; omega
 simp only [Value.slice.injEq, true_and] at hv
 obtain ⟨rfl, rfl⟩ := hv
 simp only at htk hcs hnc hg hb
 rw [Nat.mul_one] at htk hcs
 have hp' : p = some ⟨g, lo, none⟩ := by rw [hp]; exact cut_addr (by omega)
 subst hp'
 subst hdl
 obtain ⟨q, hq⟩ : ∃ q, min m2 (m - lo) = q := ⟨_, rfl⟩
 rw [hq] at hk
 have hq' : Nat.min m2 (m - lo) = q := hq
 have hcl : (ints k (src.take q)).length = q := by rw [ints_length, List.length_take]; omega
 have hlen : (ints k l).length = m := by rw [ints_length]; omega
 rcases Nat.eq_zero_or_pos m2 with hz | hpos
 ·have hq0 : q = 0 := by omega
  have hrun := run_copy_none (P := P) w t t2 o.type e (some ⟨g, lo, none⟩) A2 (m - lo) dc m2 c2 ht hst (by rw [hz]; exact Nat.zero_min _)
  unfold Oper.wp execOp
  simp only [ho, resolve, invoke, builtin, Sem.run_bind, Sem.run_pure, Result.andThen_ok, List.map_toArray, List.map_cons, List.map_nil, hs.ev hx, hs.ev hy, hrun, Oper.upon]
  refine hk (.int .i64 ((0 : Nat) : Int)) w R hw ⟨by rw [hq0], ?_⟩
  rw [hq0]
  simp only [List.take_zero, List.append_nil, Nat.add_zero, List.take_append_drop]
  exact (by
   apply List.ext_getElem?
   intro j
   rw [List.getElem?_set]
   split
   ·rename_i e; subst e; rw [if_pos (List.getElem?_eq_some_iff.1 hi).1, hi]
   ·rfl)
 ·obtain ⟨a2, rfl⟩ : ∃ a2, A2 = some a2 := by
   obtain ⟨a2, h, _⟩ := hr2.at_ 0 _ (List.getElem?_eq_getElem (by rw [ints_length]; omega))
   exact ⟨a2, h⟩
  have hrun := run_copy_row P w t t2 o.type e g lo (m - lo) dc a2 m2 c2 cur e (ints k (src.take q)) ht hst hg (by rw [hcl]; exact hq.symm) (fun j v hv => by
   obtain ⟨b, h1, h2⟩ := hr2.at_ j v (by
    rw [ints, List.map_take] at hv
    rw [List.getElem?_take] at hv
    split at hv
    ·exact hv
    ·cases hv)
   obtain rfl := Option.some.inj h1
   exact h2) (by rw [hcl, hcs]; omega) (ints_one k _)
  rw [hcl] at hrun
  unfold Oper.wp execOp
  simp only [ho, resolve, invoke, builtin, Sem.run_bind, Sem.run_pure, Result.andThen_ok, List.map_toArray, List.map_cons, List.map_nil, hs.ev hx, hs.ev hy, hrun, Oper.upon]
  refine hk (.int .i64 (q : Int)) _ _ ?_ ⟨rfl, rfl⟩
  refine hw.upd hi (row := some g) ⟨rfl, rfl, rfl, by simp, fun j _ hj => setRow_other w g j _ (fun e => hj (by simp [e]))⟩ (Nat.le_refl _) (fun j hj => by cases hj; exact ⟨_, rfl, rfl⟩) ?_ (fun a' ha' => .inl ⟨a', ha', rfl⟩)
  unfold Row.lies
  simp only
  refine ⟨?_, .inr ⟨g, c, _, rfl, hb, setRow_heap w g cur _ e _ hg, hnc, hcm, ?_, ?_⟩⟩
  ·simp only [ints_length, List.length_append, List.length_take, List.length_drop]; omega
  ·simp only [List.size_toArray, List.length_append, List.length_take, List.length_drop, Array.length_toList, ints_length]; omega
  ·simp only [Nat.mul_one]
   rw [ints_append, ints_append]
   have e1 : ints k (l.take lo) = cur.toList.take lo := by
    rw [ints, List.map_take]
    show (ints k l).take lo = _
    rw [← htk, List.take_take, Nat.min_eq_left (by omega)]
   have e2 : ints k (l.drop (lo + q)) = (cur.toList.drop (lo + q)).take (m - (lo + q)) := by
    rw [ints, List.map_drop]
    show (ints k l).drop (lo + q) = _
    rw [← htk, List.drop_take]
   rw [e1, e2]
   have h1 : (cur.toList.take lo ++ ints k (src.take q)).length = lo + q := by
    rw [List.length_append, hcl, List.length_take, Array.length_toList]; omega
   rw [List.take_append, h1, List.take_of_length_le (by omega)]
theorem cut_zero {A : Option Addr} {c : Nat} : A = cutA A 0 c 1 := by
 unfold cutA
 split
 ·rfl
 ·cases A with
  | none => rfl
  | some a => simp [Addr.add]
/-- What is one number again and again, so far. -/
def repl (v : Int) (p N : Nat) : List Int := List.replicate p v ++ List.replicate (N - p) 0
theorem repl_zero (v : Int) (N : Nat) : repl v 0 N = List.replicate N 0 := by simp [repl]
theorem repl_all (v : Int) (N : Nat) : repl v N N = List.replicate N v := by simp [repl]
theorem repl_take {v : Int} {p N : Nat} : (repl v p N).take p = List.replicate p v := by simp [repl]
theorem repl_copy {v : Int} {p q N : Nat} {src : List Int} (h : p + q ≤ N) (hs : src = List.replicate q v) : (repl v p N).take p ++ src ++ (repl v p N).drop (p + q) = repl v (p + q) N := by
 subst hs
 rw [repl_take]
 unfold repl
 rw [List.drop_append]
 simp only [List.length_replicate, List.drop_replicate, show p - (p + q) = 0 by omega, List.replicate_zero, List.nil_append, List.replicate_append_replicate]
 congr 2
 omega
end
end Go.Eng

/-! ## I1 -/
namespace Go.Proofs.YtdfcnalkdlifiaaGreat
open Go Go.Eng Go.Pure
open Tryz
set_option linter.unusedVariables false
set_option maxRecDepth 100000 in
theorem equalI_ct {w : World} {A_l : Option Addr} {n_l c_l : Nat} {l : List Int} {A_m : Option Addr} {n_m c_m : Nat} {m : List Int} (h_l : Rd w A_l n_l c_l 1 (ints .i64 l)) (h_m : Rd w A_m n_m c_m 1 (ints .i64 m)) (hN : l.length ≤ 1000000) :
  Ct Tryz.prog 51 #[.slice A_l n_l c_l, .slice A_m n_m c_m] w.heap.size w [] (fun v R' => v = .bool (decide (l = m))) := by
 obtain rfl := h_l.lenI
 obtain rfl := h_m.lenI
 refine fn1 Tryz.func51 rfl rfl rfl ?_
 have m_l := h_l.max
 have m_m := h_m.max
 refine wq <| wg rfl rfl <| wr_nil <| w_seq <| wq <| wm rfl rfl <| wr_y rfl (y_len underlying24 rfl) <| wm rfl rfl <| wr_y rfl (y_len underlying24 rfl) <| wr_y rfl (y_ne rfl rfl) <| wr_nil <| w_if rfl (fun hc1 => ?_) (fun hc1 => ?_)
 ·
  refine wq <| wg rfl rfl <| wr_nil <| w_ret ?_
  refine ⟨_, rfl, ?_⟩
  exact congrArg Value.bool (decide_eq_false (fun e => by rw [e] at hc1; exact hc1 rfl)).symm
 ·
  refine w_skip <| w_seq <| wq <| wm rfl rfl <| wr_y rfl (y_len underlying24 rfl) <| wm rfl rfl <| wr_nil <| w_block ?_
  refine w_loop1 (fun (k : Int) => [(0, .slice A_l l.length c_l), (1, .slice A_m m.length c_m), (12, .int .i64 ((l.length : Nat) : Int)), (13, .int .i64 k)]) (fun (k : Int) => []) (fun (k : Int) => (0 ≤ k) ∧ (k ≤ l.length) ∧ (l.take k.toNat = m.take k.toNat)) (fun (k : Int) => (l.length - k).toNat) ?_ ?_
  ·
   exact ⟨0, ⟨(by omega), (by omega), (rfl)⟩, (sc rfl (sc rfl (sc rfl (sc rfl Sub.nil)))), fun _ h => h⟩
  intro k ⟨hk0, hk1, hq⟩
  refine wq <| wL rfl rfl rfl <| wr_nil <| w_seq <| w_if rfl (fun hc2 => ?_) (fun hc2 => ?_)
  ·
   refine w_skip <| w_seq <| w_block <| wq <| wm rfl rfl <| wg rfl rfl <| wr_nil <| w_seq <| w_regd mixed <| wd_y 0 rfl (by kernel_rfl) rfl (y_move rfl) <| wd_y 1 rfl (by kernel_rfl) rfl (y_move rfl) <| wd_y 2 rfl (by kernel_rfl) rfl (y_index1 underlying24 sz3 rfl rfl (h_l.c _) (by omega) (by omega)) <| wd_y 3 rfl (by kernel_rfl) rfl (y_ldI underlying3 rfl rfl (h_l.c _) (by omega) (by omega)) <| wd_y 4 rfl (by kernel_rfl) rfl (y_move rfl) ?_
   refine wd_y 5 rfl (by kernel_rfl) rfl (y_move rfl) <| wd_y 6 rfl (by kernel_rfl) rfl (y_index1 underlying24 sz3 rfl rfl (h_m.c _) (by omega) (by omega)) <| wd_y 7 rfl (by kernel_rfl) rfl (y_ldI underlying3 rfl rfl (h_m.c _) (by omega) (by omega)) <| wd_y 8 rfl (by kernel_rfl) rfl (y_ne rfl rfl) <| wd_nil (by kernel_rfl) <| w_if rfl (fun hc3 => ?_) (fun hc3 => ?_)
   ·
    refine wq <| wg rfl rfl <| wr_nil <| w_ret ?_
    refine ⟨_, rfl, ?_⟩
    exact congrArg Value.bool (decide_eq_false (fun e => by subst e; exact hc3 rfl)).symm
   ·
    refine w_skip <| w_reg <| wA rfl rfl rfl (by omega) <| wm rfl rfl <| wr_nil ?_
    exact ⟨k + 1, ⟨(by omega), (by omega), (by rw [take_rd hk0 (by omega), take_rd hk0 (by omega), hq]; exact congrArg (fun z => List.take k.toNat m ++ [z]) (Decidable.not_not.1 (by assumption)))⟩, (by omega), (sc rfl (sc rfl (sc rfl (sc rfl Sub.nil)))), fun _ h => h⟩
  ·
   refine w_exit <| wq <| wg rfl rfl <| wr_nil <| w_ret ?_
   refine ⟨_, rfl, ?_⟩
   exact congrArg Value.bool (decide_eq_true (by rw [List.take_of_length_le (by omega), List.take_of_length_le (by omega)] at hq; exact hq)).symm

theorem mul_ct {B : Nat} {w0 : World} {R : List Row} (N : Nat) (h : N ≤ 1000000) : Ct Tryz.prog 42 #[.int .u64 1, .int .u64 ((N : Nat) : Int)] B w0 R (fun v R' => v = .tuple #[.int .u64 0, .int .u64 ((N : Nat) : Int)] ∧ R' = R) := by
 intro w hw
 have hc := Tryz.bits_Mul 1 N (by omega) (by omega) w
 rw [Nat.one_mul, Nat.div_eq_of_lt (by omega), Nat.mod_eq_of_lt (by omega)] at hc
 refine hc.mono ?_
 rintro e w' ⟨rfl, rfl⟩
 exact ⟨_, R, rfl, hw, rfl, rfl⟩
theorem wrap_u64N {p : Int} (h : 0 ≤ p ∧ p ≤ 18446744073709551615) : IntKind.u64.wrap p = p := by rw [IntKind.wrap_u64]; omega
theorem rep_step {D : List Int} {val : Int} {N : Nat} {p : Int} (p1 : 1 ≤ p) (hp : p ≤ N) (hD : D = repl val p.toNat N) :
  List.take p.toNat D ++ List.take (min p.toNat (N - p.toNat)) (List.take p.toNat D) ++ List.drop (p.toNat + min p.toNat (N - p.toNat)) D = repl val (p + ((min p.toNat (N - p.toNat) : Nat) : Int)).toNat N := by
 subst hD
 rw [show (p + ((min p.toNat (N - p.toNat) : Nat) : Int)).toNat = p.toNat + min p.toNat (N - p.toNat) by omega]
 refine repl_copy (by omega) ?_
 rw [repl_take, List.take_replicate]
 congr 1
 omega
theorem rep_init {val : Int} {N : Nat} (h : 1 ≤ N) : List.take 0 (List.replicate N (0 : Int)) ++ List.take (min ([val].length) (N - 0)) [val] ++ List.drop (0 + min ([val].length) (N - 0)) (List.replicate N (0 : Int)) = repl val (((min ([val].length) (N - 0) : Nat) : Int)).toNat N := by
 have e : min ([val].length) (N - 0) = 1 := by simp; omega
 rw [e, ← repl_zero val N]
 exact repl_copy (p := 0) (q := 1) (by omega) rfl
set_option maxRecDepth 100000 in
set_option maxHeartbeats 800000 in
theorem repeatI_ct {w : World} {A_x : Option Addr} {n_x c_x : Nat} {x : List Int} {cn : Int} {val : Int} {N : Nat} (h_x : Rd w A_x n_x c_x 1 (ints .i64 x)) (hx : x = [val]) (hcn : cn = ((N : Nat) : Int)) (hN : 1 ≤ N ∧ N ≤ 1000000) :
  Ct Tryz.prog 162 #[.slice A_x n_x c_x, .int .i64 cn] w.heap.size w [] (fun v R' => ∃ A c, v = .slice A N c ∧ R' = [⟨3, 1, A, N, c, ints .i64 (List.replicate N val), false⟩]) := by
 obtain rfl := h_x.lenI
 refine fn1 Tryz.func162 rfl rfl rfl ?_
 have m_x := h_x.max
 refine wq <| wg rfl rfl <| wr_nil <| w_seq <| wq <| wm rfl rfl <| wr_y rfl (Yl.f (y_lt rfl rfl) (by omega)) <| wr_nil <| w_false rfl <| w_skip <| wq <| wm rfl rfl ?_
 refine wr_y rfl (y_len underlying24 rfl) <| wr_y rfl (Yl.is (y_conv underlying3 underlying79 rfl) (by rw [hx])) ?_
 refine wm rfl rfl <| wr_y rfl (Yl.is (y_conv underlying3 underlying79 rfl) (by rw [wrap_u64N (by omega), hcn])) ?_
 refine wr_a rfl (a_callF en42 rfl (mul_ct N hN.2)) ?_
 rintro _ _ ⟨rfl, rfl⟩
 refine wm rfl rfl <| wX rfl rfl rfl <| wX rfl rfl rfl <| wg rfl rfl <| wg rfl rfl <| wr_nil <| w_seq <| wq <| wm rfl rfl <| wr_y rfl (Yl.f (y_gt rfl rfl) (by omega)) <| wm rfl rfl <| wr_yes rfl rfl <| wm rfl rfl <| wr_yes rfl rfl ?_
 refine wr_y rfl (Yl.f (y_gt rfl rfl) (by omega)) <| wr_y rfl (y_pickF rfl rfl) <| wr_nil <| w_false rfl <| w_skip <| wq <| wm rfl rfl <| wr_y rfl (y_convI underlying79 underlying3 rfl (by omega)) <| wr_a rfl (a_makeN underlying24 zb3 rfl rfl (by omega) (by omega) (by omega)) ?_
 rintro _ _ ⟨g_1, rfl, rfl⟩
 refine wr_rows (R1 := [⟨3, 1, (some ⟨g_1, 0, none⟩), N, N, ints .i64 (List.replicate N (0 : Int)), false⟩]) rfl <| wr_as (v := .slice (some ⟨g_1, 0, none⟩) N N) rfl <| wg rfl rfl <| wr_nil <| wq <| wm rfl rfl <| wm rfl rfl <| wr_a rfl (a_copyI (lo := 0) 0 rfl underlying24 sz3 rfl rfl cut_zero rfl (by omega) (h_x.c _)) ?_
 rintro _ _ ⟨rfl, rfl⟩
 refine wr_rows (R1 := [⟨3, 1, (some ⟨g_1, 0, none⟩), N, N, ints .i64 (List.take 0 (List.replicate N (0 : Int)) ++ List.take (min x.length (N - 0)) x ++ List.drop (0 + min x.length (N - 0)) (List.replicate N (0 : Int))), false⟩]) rfl <| wg rfl rfl <| wr_nil <| w_seq <| w_block ?_
 refine w_loop2 (fun (p : Int) (D : List Int) => [(7, .slice (some ⟨g_1, 0, none⟩) N N), (8, .int .i64 p)]) (fun (p : Int) (D : List Int) => [⟨3, 1, (some ⟨g_1, 0, none⟩), N, N, ints .i64 D, false⟩]) (fun (p : Int) (D : List Int) => (1 ≤ p) ∧ (p ≤ N) ∧ (D = repl val p.toNat N)) (fun (p : Int) (D : List Int) => (N - p).toNat) ?_ ?_
 ·
  exact ⟨((min x.length (N - 0) : Nat) : Int), List.take 0 (List.replicate N (0 : Int)) ++ List.take (min x.length (N - 0)) x ++ List.drop (0 + min x.length (N - 0)) (List.replicate N (0 : Int)), ⟨(by subst hx; simp; omega), (by omega), (by subst hx; exact rep_init hN.1)⟩, (sc rfl (sc rfl Sub.nil)), fun _ h => h⟩
 intro p D ⟨hp0, hp1, hD⟩
 refine w_seq <| wq <| wm rfl rfl <| wm rfl rfl <| wr_y rfl (y_len underlying24 rfl) <| wL rfl rfl rfl <| wr_nil <| w_if rfl (fun hc1 => ?_) (fun hc1 => ?_)
 ·
  refine w_skip <| w_block <| w_regd mixed <| wd_y 0 rfl (by kernel_rfl) rfl (y_move rfl) <| wd_y 1 rfl (by kernel_rfl) rfl (y_move rfl) <| wd_y 2 rfl (by kernel_rfl) rfl (y_move rfl) <| wd_y 3 rfl (by kernel_rfl) rfl (y_sliceFrom underlying24 sz3 rfl rfl (by omega) (by omega)) <| wd_y 4 rfl (by kernel_rfl) rfl (y_move rfl) <| wd_y 5 rfl (by kernel_rfl) rfl (y_move rfl) <| wd_y 6 rfl (by kernel_rfl) rfl (y_sliceTo underlying24 sz3 rfl rfl (rdr 0 rfl) (by omega) (by omega)) <| wd_a 7 rfl (by kernel_rfl) rfl (a_copyI (lo := p.toNat) 0 rfl underlying24 sz3 rfl rfl rfl rfl (by omega) (RdC.toI (rdr 0 rfl) (by omega))) ?_
  rintro _ _ ⟨rfl, rfl⟩
  refine ⟨.inl (by kernel_rfl), ?_⟩
  refine wd_rows (R1 := [⟨3, 1, (some ⟨g_1, 0, none⟩), N, N, ints .i64 (List.take p.toNat D ++ List.take (min ((p).toNat) (N - p.toNat)) ((D).take (p).toNat) ++ List.drop (p.toNat + min ((p).toNat) (N - p.toNat)) D), false⟩]) rfl <| wd_y 8 rfl (by kernel_rfl) rfl (y_addI rfl rfl (by omega)) <| wd_y 9 rfl (by kernel_rfl) rfl (y_assign rfl) <| wd_nil (by kernel_rfl) ?_
  exact ⟨p + ((min ((p).toNat) (N - p.toNat) : Nat) : Int), List.take p.toNat D ++ List.take (min ((p).toNat) (N - p.toNat)) ((D).take (p).toNat) ++ List.drop (p.toNat + min ((p).toNat) (N - p.toNat)) D, ⟨(by omega), (by omega), (rep_step hp0 hp1 hD)⟩, (by omega), (sc rfl (sc rfl Sub.nil)), fun _ h => h⟩
 ·
  refine w_exit <| wq <| wm rfl rfl <| wg rfl rfl <| wr_nil <| w_retR (R1 := [⟨3, 1, (some ⟨g_1, 0, none⟩), N, N, ints .i64 D, false⟩]) (fun _ h => h.sel [0] (by decide) rfl) ?_
  refine ⟨_, rfl, ?_⟩
  obtain rfl : D = List.replicate N val := by rw [hD, show p.toNat = N by omega]; exact repl_all _ _
  exact ⟨_, _, rfl, rfl⟩

set_option maxRecDepth 100000 in
set_option maxHeartbeats 600000 in
theorem small_ct {w : World} {A_s : Option Addr} {n_s c_s : Nat} {s : List Int} (h_s : Rd w A_s n_s c_s 1 (ints .i64 s)) (hN : s.length ≤ 1000000) :
  Ct Tryz.prog 159 #[.slice A_s n_s c_s] w.heap.size w [] (fun v R' => ∃ A c, v = .slice A s.length c ∧ R' = [⟨4, 1, A, s.length, c, bools (smL s), false⟩]) := by
 obtain rfl := h_s.lenI
 refine fn1 Tryz.func159 rfl rfl rfl ?_
 have m_s := h_s.max
 refine wq <| wg rfl rfl <| wr_nil <| wq <| wm rfl rfl <| wr_y rfl (y_len underlying24 rfl) <| wr_a rfl (a_makeB underlying101 zb4 rfl rfl (by omega) (by omega) (by omega)) ?_
 rintro _ _ ⟨g_1, rfl, rfl⟩
 refine wr_rows (R1 := [⟨4, 1, (some ⟨g_1, 0, none⟩), s.length, s.length, bools (List.replicate s.length false), false⟩]) rfl <| wr_as (v := .slice (some ⟨g_1, 0, none⟩) s.length s.length) rfl <| wg rfl rfl <| wr_nil <| w_seq <| wq <| wm rfl rfl <| wr_y rfl (y_len underlying24 rfl) <| wS rfl rfl rfl (by omega) <| wg rfl rfl <| wr_nil <| w_block ?_
 refine w_loop2 (fun (i : Int) (m : List Bool) => [(0, .slice A_s s.length c_s), (3, .slice (some ⟨g_1, 0, none⟩) s.length s.length), (4, .int .i64 i)]) (fun (i : Int) (m : List Bool) => [⟨4, 1, (some ⟨g_1, 0, none⟩), s.length, s.length, bools m, false⟩]) (fun (i : Int) (m : List Bool) => (-2 ≤ i) ∧ (i + 2 ≤ s.length) ∧ (m.length = s.length) ∧ (∀ j : Int, 0 ≤ j → i < j → j < s.length → rdb m j = smB s j)) (fun (i : Int) (m : List Bool) => (i + 1).toNat) ?_ ?_
 ·
  exact ⟨((s.length : Nat) : Int) - 2, List.replicate s.length false, ⟨(by omega), (by omega), (by rw [List.length_replicate]), (fun j h0 h1 h2 => by rw [rdb_rep, smB_last h0 (by omega)])⟩, (sc rfl (sc rfl (sc rfl Sub.nil))), fun _ h => h⟩
 intro i m ⟨hi0, hi1, hl, hM⟩
 refine w_seq <| wq <| wm rfl rfl <| wr_y rfl (y_ge rfl rfl) <| wr_nil <| w_if rfl (fun hc1 => ?_) (fun hc1 => ?_)
 ·
  refine w_skip <| w_seq <| w_block <| w_regd mixed <| wd_y 0 rfl (by kernel_rfl) rfl (y_move rfl) <| wd_y 1 rfl (by kernel_rfl) rfl (y_move rfl) <| wd_y 2 rfl (by kernel_rfl) rfl (y_move rfl) <| wd_y 3 rfl (by kernel_rfl) rfl (y_move rfl) <| wd_y 4 rfl (by kernel_rfl) rfl (y_index1 underlying24 sz3 rfl rfl (h_s.c _) (by omega) (by omega)) <| wd_y 5 rfl (by kernel_rfl) rfl (y_ldI underlying3 rfl rfl (h_s.c _) (by omega) (by omega)) <| wd_y 6 rfl (by kernel_rfl) rfl (y_move rfl) <| wd_y 7 rfl (by kernel_rfl) rfl (y_move rfl) <| wd_y 8 rfl (by kernel_rfl) rfl (y_addI rfl rfl (by omega)) <| wd_y 9 rfl (by kernel_rfl) rfl (y_index1 underlying24 sz3 rfl rfl (h_s.c _) (by omega) (by omega)) <| wd_y 10 rfl (by kernel_rfl) rfl (y_ldI underlying3 rfl rfl (h_s.c _) (by omega) (by omega)) ?_
  refine wd_y 11 rfl (by kernel_rfl) rfl (y_lt rfl rfl) <| wd_y 12 rfl (by kernel_rfl) rfl (y_move rfl) <| wd_case 27 rfl (fun hc2 => ?_) (fun hc2 => ?_)
  ·
   refine wd_no 13 rfl (by kernel_rfl) rfl rfl rfl rfl <| wd_no 14 rfl (by kernel_rfl) rfl rfl rfl rfl <| wd_no 15 rfl (by kernel_rfl) rfl rfl rfl rfl <| wd_no 16 rfl (by kernel_rfl) rfl rfl rfl rfl <| wd_no 17 rfl (by kernel_rfl) rfl rfl rfl rfl <| wd_no 18 rfl (by kernel_rfl) rfl rfl rfl rfl <| wd_no 19 rfl (by kernel_rfl) rfl rfl rfl rfl <| wd_no 20 rfl (by kernel_rfl) rfl rfl rfl rfl <| wd_no 21 rfl (by kernel_rfl) rfl rfl rfl rfl <| wd_no 22 rfl (by kernel_rfl) rfl rfl rfl rfl <| wd_no 23 rfl (by kernel_rfl) rfl rfl rfl rfl <| wd_nou 24 rfl (by kernel_rfl) rfl rfl rfl <| wd_nou 25 rfl (by kernel_rfl) rfl rfl rfl <| wd_nou 26 rfl (by kernel_rfl) rfl rfl rfl <| wd_nou 27 rfl (by kernel_rfl) rfl rfl rfl ?_
   refine wd_nou 28 rfl (by kernel_rfl) rfl rfl rfl <| wd_no 29 rfl (by kernel_rfl) rfl rfl rfl rfl <| wd_y 30 rfl (by kernel_rfl) rfl (y_pickT rfl rfl) <| wd_y 31 rfl (by kernel_rfl) rfl (y_index1 underlying101 sz4 rfl rfl (rdr 0 rfl) (by omega) (by omega)) <| wd_n 32 rfl (by kernel_rfl) (a_storeB 0 rfl sz4 rfl rfl (by omega) (by omega)) ?_
   rintro _ _ rfl
   refine ⟨.inl (by kernel_rfl), ?_⟩
   refine wd_rows (R1 := [⟨4, 1, (some ⟨g_1, 0, none⟩), s.length, s.length, bools (updB m i true), false⟩]) rfl <| wd_nil (by kernel_rfl) <| w_reg <| wm rfl rfl <| wS rfl rfl rfl (by omega) <| wg rfl rfl <| wr_nil ?_
   exact ⟨i - 1, updB m i true, ⟨(by omega), (by omega), (by rw [updB_len]; exact hl), (fun j h0 h1 h2 => sm_step (by omega) (by omega) hl (fun j a b => hM j (by omega) a b) (⟨fun _ => .inl (by omega), fun _ => rfl⟩) j (by omega) h2)⟩, (by omega), (sc rfl (sc rfl (sc rfl Sub.nil))), fun _ h => h⟩
  ·
   refine wd_yg 13 rfl (by kernel_rfl) rfl rfl rfl (y_move rfl) <| wd_yg 14 rfl (by kernel_rfl) rfl rfl rfl (y_move rfl) <| wd_yg 15 rfl (by kernel_rfl) rfl rfl rfl (y_index1 underlying24 sz3 rfl rfl (h_s.c _) (by omega) (by omega)) <| wd_yg 16 rfl (by kernel_rfl) rfl rfl rfl (y_ldI underlying3 rfl rfl (h_s.c _) (by omega) (by omega)) <| wd_yg 17 rfl (by kernel_rfl) rfl rfl rfl (y_move rfl) <| wd_yg 18 rfl (by kernel_rfl) rfl rfl rfl (y_move rfl) <| wd_yg 19 rfl (by kernel_rfl) rfl rfl rfl (y_addI rfl rfl (by omega)) <| wd_yg 20 rfl (by kernel_rfl) rfl rfl rfl (y_index1 underlying24 sz3 rfl rfl (h_s.c _) (by omega) (by omega)) <| wd_yg 21 rfl (by kernel_rfl) rfl rfl rfl (y_ldI underlying3 rfl rfl (h_s.c _) (by omega) (by omega)) <| wd_yg 22 rfl (by kernel_rfl) rfl rfl rfl (y_eq rfl rfl) <| wd_yg 23 rfl (by kernel_rfl) rfl rfl rfl (y_move rfl) <| wd_case 38 rfl (fun hc3 => ?_) (fun hc3 => ?_)
   ·
    refine wd_yg 24 rfl (by kernel_rfl) rfl rfl rfl (y_move rfl) <| wd_yg 25 rfl (by kernel_rfl) rfl rfl rfl (y_move rfl) <| wd_yg 26 rfl (by kernel_rfl) rfl rfl rfl (y_addI rfl rfl (by omega)) <| wd_yg 27 rfl (by kernel_rfl) rfl rfl rfl (y_index1 underlying101 sz4 rfl rfl (rdr 0 rfl) (by omega) (by omega)) <| wd_yg 28 rfl (by kernel_rfl) rfl rfl rfl (y_ldB underlying4 rfl rfl (rdr 0 rfl) (by omega) (by omega)) <| wd_yg 29 rfl (by kernel_rfl) rfl rfl rfl (y_pickT rfl rfl) <| wd_y 30 rfl (by kernel_rfl) rfl (y_pickF rfl rfl) <| wd_y 31 rfl (by kernel_rfl) rfl (y_index1 underlying101 sz4 rfl rfl (rdr 0 rfl) (by omega) (by omega)) <| wd_n 32 rfl (by kernel_rfl) (a_storeB 0 rfl sz4 rfl rfl (by omega) (by omega)) ?_
    rintro _ _ rfl
    refine ⟨.inl (by kernel_rfl), ?_⟩
    refine wd_rows (R1 := [⟨4, 1, (some ⟨g_1, 0, none⟩), s.length, s.length, bools (updB m i (decide (rdb m (i + 1) = true))), false⟩]) rfl <| wd_nil (by kernel_rfl) <| w_reg <| wm rfl rfl <| wS rfl rfl rfl (by omega) <| wg rfl rfl <| wr_nil ?_
    exact ⟨i - 1, updB m i (decide (rdb m (i + 1) = true)), ⟨(by omega), (by omega), (by rw [updB_len]; exact hl), (fun j h0 h1 h2 => sm_step (by omega) (by omega) hl (fun j a b => hM j (by omega) a b) (by rw [decide_eq_true_iff]; exact ⟨fun h => .inr ⟨by omega, h⟩, fun h => (h.resolve_left (by omega)).2⟩) j (by omega) h2)⟩, (by omega), (sc rfl (sc rfl (sc rfl Sub.nil))), fun _ h => h⟩
   ·
    refine wd_no 24 rfl (by kernel_rfl) rfl rfl rfl rfl <| wd_no 25 rfl (by kernel_rfl) rfl rfl rfl rfl <| wd_no 26 rfl (by kernel_rfl) rfl rfl rfl rfl <| wd_no 27 rfl (by kernel_rfl) rfl rfl rfl rfl <| wd_no 28 rfl (by kernel_rfl) rfl rfl rfl rfl <| wd_yg 29 rfl (by kernel_rfl) rfl rfl rfl (y_pickF rfl rfl) <| wd_y 30 rfl (by kernel_rfl) rfl (y_pickF rfl rfl) <| wd_y 31 rfl (by kernel_rfl) rfl (y_index1 underlying101 sz4 rfl rfl (rdr 0 rfl) (by omega) (by omega)) <| wd_n 32 rfl (by kernel_rfl) (a_storeB 0 rfl sz4 rfl rfl (by omega) (by omega)) ?_
    rintro _ _ rfl
    refine ⟨.inl (by kernel_rfl), ?_⟩
    refine wd_rows (R1 := [⟨4, 1, (some ⟨g_1, 0, none⟩), s.length, s.length, bools (updB m i false), false⟩]) rfl <| wd_nil (by kernel_rfl) <| w_reg <| wm rfl rfl <| wS rfl rfl rfl (by omega) <| wg rfl rfl <| wr_nil ?_
    exact ⟨i - 1, updB m i false, ⟨(by omega), (by omega), (by rw [updB_len]; exact hl), (fun j h0 h1 h2 => sm_step (by omega) (by omega) hl (fun j a b => hM j (by omega) a b) (⟨fun h => (by cases h), fun h => absurd h (by omega)⟩) j (by omega) h2)⟩, (by omega), (sc rfl (sc rfl (sc rfl Sub.nil))), fun _ h => h⟩
 ·
  refine w_exit <| wq <| wm rfl rfl <| wg rfl rfl <| wr_nil <| w_retR (R1 := [⟨4, 1, (some ⟨g_1, 0, none⟩), s.length, s.length, bools m, false⟩]) (fun _ h => h.sel [0] (by decide) rfl) ?_
  refine ⟨_, rfl, ?_⟩
  obtain rfl : m = smL s := smL_of hl fun j h0 h1 => hM j h0 (by omega) h1
  exact ⟨_, _, rfl, rfl⟩

theorem fst_yes {s : List Int} {i : Int} (h0 : 0 ≤ i) (hi : i < s.length) (h1 : 0 < i) (h2 : rdb (smL s) i = true) (h3 : ¬ rdb (smL s) (i - 1) = true) : fstB s i = true := by
 rw [rdb_smL h0 hi] at h2
 rw [rdb_smL (by omega) (by omega)] at h3
 exact fstB_iff.2 ⟨h1, h2, by simpa using h3⟩
theorem fst_no {s : List Int} {i : Int} (h0 : 0 ≤ i) (hi : i < s.length) (h : ¬ (0 < i ∧ rdb (smL s) i = true ∧ ¬ rdb (smL s) (i - 1) = true)) : ¬ fstB s i = true := fun e => by
 obtain ⟨h1, h2, h3⟩ := fstB_iff.1 e
 exact h ⟨h1, by rw [rdb_smL h0 hi]; exact h2, by rw [rdb_smL (by omega) (by omega), h3]; simp⟩
theorem fstP_one (s : List Int) : fstP s 1 = [] := by
 show fstP s (0 + 1) = []
 rw [fstP_step (by omega), if_neg (fun h => by have := (fstB_iff.1 h).1; omega)]
 rfl
theorem fstP_end {s : List Int} {i : Int} (h : i = s.length ∨ i = 1 ∧ s.length = 0) : fstP s i = fstL s := by
 rcases h with rfl | ⟨rfl, h⟩
 ·exact fstP_all
 ·rw [fstP_one, ← fstP_all, h]; rfl
set_option maxRecDepth 100000 in
theorem first_ct {w : World} {A_s : Option Addr} {n_s c_s : Nat} {s : List Int} (h_s : Rd w A_s n_s c_s 1 (ints .i64 s)) (hN : s.length ≤ 1000000) :
  Ct Tryz.prog 148 #[.slice A_s n_s c_s] w.heap.size w [] (fun v R' => ∃ A c, v = .slice A (fstL s).length c ∧ R' = [⟨3, 1, A, (fstL s).length, c, ints .i64 (fstL s), false⟩]) := by
 obtain rfl := h_s.lenI
 refine fn1 Tryz.func148 rfl rfl rfl ?_
 have m_s := h_s.max
 refine wq <| wg rfl rfl <| wr_nil <| wq <| wr_sub (R1 := [⟨3, 1, none, 0, 0, ints .i64 ([]), false⟩]) (Sub.refl _) (fun _ h => h.nil 3 1) <| wg rfl rfl <| wr_nil <| wq <| wm rfl rfl <| wr_a rfl (a_callF en159 rfl (Ct.fresh (fun w hw => small_ct ((h_s.c _) w hw) (by first | assumption | omega | decide)))) ?_
 rintro _ _ ⟨_, rfl, A_1, c_2, rfl, rfl⟩
 refine wg rfl rfl <| wr_nil <| w_seq <| wq <| wm rfl rfl <| wr_y rfl (y_len underlying24 rfl) <| wm rfl rfl <| wr_nil <| w_block ?_
 refine w_loop5 (fun (A1 : Option Addr) (n1 : Nat) (c1 : Nat) (acc : List Int) (i : Int) => [(3, .slice A1 n1 c1), (4, .slice A_1 s.length c_2), (9, .int .i64 ((s.length : Nat) : Int)), (10, .int .i64 i)]) (fun (A1 : Option Addr) (n1 : Nat) (c1 : Nat) (acc : List Int) (i : Int) => [⟨4, 1, A_1, s.length, c_2, bools (smL s), false⟩, ⟨3, 1, A1, n1, c1, ints .i64 acc, false⟩]) (fun (A1 : Option Addr) (n1 : Nat) (c1 : Nat) (acc : List Int) (i : Int) => (n1 = acc.length) ∧ (0 ≤ i) ∧ (i ≤ s.length) ∧ (acc = fstP s i)) (fun (A1 : Option Addr) (n1 : Nat) (c1 : Nat) (acc : List Int) (i : Int) => (s.length - i).toNat) ?_ ?_
 ·
  exact ⟨none, 0, 0, [], 0, ⟨(rfl), (by omega), (by omega), (rfl)⟩, (sc rfl (sc rfl (sc rfl (sc rfl Sub.nil)))), fun _ h => h⟩
 intro A1 n1 c1 acc i ⟨hn1, hi0, hi1, hacc⟩
 refine wq <| wL rfl rfl rfl <| wr_nil <| w_seq <| w_if rfl (fun hc1 => ?_) (fun hc1 => ?_)
 ·
  refine w_skip <| w_seq <| w_block <| wq <| wm rfl rfl <| wg rfl rfl <| wr_nil <| wq <| wm rfl rfl <| wr_y rfl (y_gt rfl rfl) <| wm rfl rfl <| wr_mid 5 [(3, .slice A1 n1 c1), (4, .slice A_1 s.length c_2), (5, .int .i64 i), (9, .int .i64 ((s.length : Nat) : Int)), (10, .int .i64 i), (20, .bool (decide ((0 < i) ∧ (rdb (smL s) i = true))))] [⟨4, 1, A_1, s.length, c_2, bools (smL s), false⟩, ⟨3, 1, A1, n1, c1, ints .i64 acc, false⟩] ?_ ?_
  ·
   refine wr_case 15 rfl (fun hc2 => ?_) (fun hc2 => ?_)
   ·
    refine wr_yes rfl rfl <| wm rfl rfl <| wr_yes rfl rfl <| wm rfl rfl <| wr_yes rfl rfl <| wr_y rfl (y_index1 underlying101 sz4 rfl rfl (rdr 0 rfl) (by omega) (by omega)) <| wr_yes rfl rfl <| wr_y rfl (y_ldB underlying4 rfl rfl (rdr 0 rfl) (by omega) (by omega)) <| wr_y rfl (y_pickT rfl rfl) <| wr_nil ?_
    exact ⟨(sc rfl (sc rfl (sc rfl (sc rfl (sc rfl (Sub.to rfl (mb (by first | omega | exact ⟨fun h => ⟨(by assumption), h⟩, fun h => h.2⟩ | exact .inl (by assumption) | exact ⟨.inr, fun h => h.resolve_left (by assumption)⟩ | exact ⟨fun h => h.resolve_left (by assumption), .inr⟩ | simp [*])) Sub.nil)))))), fun _ h => h⟩
   ·
    refine wr_no rfl rfl rfl rfl <| wr_no rfl rfl rfl rfl <| wr_no rfl rfl rfl rfl <| wr_no rfl rfl rfl rfl <| wr_y rfl (y_pickF rfl rfl) <| wr_nil ?_
    exact ⟨(sc rfl (sc rfl (sc rfl (sc rfl (sc rfl (Sub.to rfl (mb_f (by first | omega | exact ⟨fun h => ⟨(by assumption), h⟩, fun h => h.2⟩ | exact .inl (by assumption) | exact ⟨.inr, fun h => h.resolve_left (by assumption)⟩ | exact ⟨fun h => h.resolve_left (by assumption), .inr⟩ | simp [*])) Sub.nil)))))), fun _ h => h⟩
  refine wm rfl rfl <| wr_mid 7 [(3, .slice A1 n1 c1), (4, .slice A_1 s.length c_2), (5, .int .i64 i), (9, .int .i64 ((s.length : Nat) : Int)), (10, .int .i64 i), (28, .bool (decide (((0 < i) ∧ (rdb (smL s) i = true)) ∧ (¬ (rdb (smL s) (i - 1) = true)))))] [⟨4, 1, A_1, s.length, c_2, bools (smL s), false⟩, ⟨3, 1, A1, n1, c1, ints .i64 acc, false⟩] ?_ ?_
  ·
   refine wr_case 21 rfl (fun hc3 => ?_) (fun hc3 => ?_)
   ·
    refine wr_yes rfl rfl <| wm rfl rfl <| wr_yes rfl rfl <| wm rfl rfl <| wr_yes rfl rfl <| wS rfl rfl rfl (by omega) <| wr_yes rfl rfl <| wr_y rfl (y_index1 underlying101 sz4 rfl rfl (rdr 0 rfl) (by omega) (by omega)) <| wr_yes rfl rfl <| wr_y rfl (y_ldB underlying4 rfl rfl (rdr 0 rfl) (by omega) (by omega)) <| wr_yes rfl rfl <| wr_y rfl (y_notD rfl) <| wr_y rfl (y_pickT rfl rfl) <| wr_nil ?_
    exact ⟨(sc rfl (sc rfl (sc rfl (sc rfl (sc rfl (Sub.to rfl (mb (by first | omega | exact ⟨fun h => ⟨(by assumption), h⟩, fun h => h.2⟩ | exact .inl (by assumption) | exact ⟨.inr, fun h => h.resolve_left (by assumption)⟩ | exact ⟨fun h => h.resolve_left (by assumption), .inr⟩ | simp [*])) Sub.nil)))))), fun _ h => h⟩
   ·
    refine wr_no rfl rfl rfl rfl <| wr_no rfl rfl rfl rfl <| wr_no rfl rfl rfl rfl <| wr_no rfl rfl rfl rfl <| wr_no rfl rfl rfl rfl <| wr_no rfl rfl rfl rfl <| wr_y rfl (y_pickF rfl rfl) <| wr_nil ?_
    exact ⟨(sc rfl (sc rfl (sc rfl (sc rfl (sc rfl (Sub.to rfl (mb_f (by first | omega | exact ⟨fun h => ⟨(by assumption), h⟩, fun h => h.2⟩ | exact .inl (by assumption) | exact ⟨.inr, fun h => h.resolve_left (by assumption)⟩ | exact ⟨fun h => h.resolve_left (by assumption), .inr⟩ | simp [*])) Sub.nil)))))), fun _ h => h⟩
  refine wr_nil <| w_if rfl (fun hc4 => ?_) (fun hc4 => ?_)
  ·
   refine w_reg <| wm rfl rfl <| wm rfl rfl <| wr_a rfl (a_litI .i64 [i] underlying24 zs3 rfl rfl rfl) ?_
   rintro _ _ ⟨g_5, rfl, rfl⟩
   refine wr_a rfl (a_appendI 2 rfl underlying24 zb3 rfl rfl rfl (rdr 0 rfl) (by have := congrArg List.length hacc; have := fstP_len (s := s) i; omega)) ?_
   rintro _ _ ⟨A_6, c_7, rfl, rfl⟩
   refine wr_rows (R1 := [⟨3, 1, (some ⟨g_5, 0, none⟩), 1, 1, ints .i64 ([i]), false⟩, ⟨4, 1, A_1, s.length, c_2, bools (smL s), false⟩, ⟨3, 1, A_6, (n1 + 1), c_7, ints .i64 (acc ++ ([i])), false⟩]) rfl <| wr_as (v := .slice A_6 (n1 + 1) c_7) rfl <| wg rfl rfl <| wr_nil <| w_reg <| wA rfl rfl rfl (by omega) <| wm rfl rfl <| wr_nil ?_
   exact ⟨A_6, n1 + 1, c_7, acc ++ ([i]), i + 1, ⟨(by rw [List.length_append, hn1]; try rfl), (by omega), (by omega), (by rw [fstP_step (by omega), if_pos (fst_yes (by omega) (by omega) hc4.1.1 hc4.1.2 hc4.2), hacc])⟩, (by omega), (sc rfl (sc rfl (sc rfl (sc rfl Sub.nil)))), fun _ h => h.sel [1, 2] (by decide) rfl⟩
  ·
   refine w_skip <| w_reg <| wA rfl rfl rfl (by omega) <| wm rfl rfl <| wr_nil ?_
   exact ⟨A1, n1, c1, acc, i + 1, ⟨(hn1), (by omega), (by omega), (by rw [fstP_step (by omega), if_neg (fst_no (by omega) (by omega) (fun h => hc4 ⟨⟨h.1, h.2.1⟩, h.2.2⟩)), List.append_nil, hacc])⟩, (by omega), (sc rfl (sc rfl (sc rfl (sc rfl Sub.nil)))), fun _ h => h⟩
 ·
  refine w_exit <| wq <| wm rfl rfl <| wg rfl rfl <| wr_nil <| w_retR (R1 := [⟨3, 1, A1, n1, c1, ints .i64 acc, false⟩]) (fun _ h => h.sel [1] (by decide) rfl) ?_
  refine ⟨_, rfl, ?_⟩
  rw [fstP_end (by omega)] at hacc
  subst hacc
  obtain rfl := hn1
  exact ⟨_, _, rfl, rfl⟩

end Go.Proofs.YtdfcnalkdlifiaaGreat

/-! ## K2 -/
namespace Go.Proofs.YtdfcnalkdlifiaaGreat
open Go Go.Eng Go.Pure
open Tryz
set_option linter.unusedVariables false
set_option maxRecDepth 100000 in
theorem inverseP16_ct {w : World} {A_a : Option Addr} {n_a c_a : Nat} {a : List Int} (h_a : Rd w A_a n_a c_a 1 (ints .i64 a)) (hp : a.Perm (iota a.length)) (hN : a.length ≤ 1000000) :
  Ct Tryz.prog 67 #[.slice A_a n_a c_a] w.heap.size w [] (fun v R' => ∃ (V : List Int) (A : Option Addr) (c : Nat), v = .tuple #[.slice A a.length c, .bool true] ∧ InvF a V ∧ R' = [⟨3, 1, A, a.length, c, ints .i64 V, false⟩]) := by
 obtain rfl := h_a.lenI
 refine fn2 Tryz.func67 rfl rfl rfl ?_
 have m_a := h_a.max
 refine wq <| wg rfl rfl <| wg rfl rfl <| wr_nil <| wq <| wm rfl rfl <| wr_y rfl (y_len underlying24 rfl) <| wr_a rfl (a_makeN underlying24 zb3 rfl rfl (by omega) (by omega) (by omega)) ?_
 rintro _ _ ⟨g_1, rfl, rfl⟩
 refine wr_rows (R1 := [⟨3, 1, (some ⟨g_1, 0, none⟩), a.length, a.length, ints .i64 (List.replicate a.length (0 : Int)), false⟩]) rfl <| wr_as (v := .slice (some ⟨g_1, 0, none⟩) a.length a.length) rfl <| wg rfl rfl <| wr_nil <| wq <| wm rfl rfl <| wr_y rfl (y_len underlying24 rfl) <| wr_a rfl (a_makeB underlying101 zb4 rfl rfl (by omega) (by omega) (by omega)) ?_
 rintro _ _ ⟨g_2, rfl, rfl⟩
 refine wr_rows (R1 := [⟨4, 1, (some ⟨g_2, 0, none⟩), a.length, a.length, bools (List.replicate a.length false), false⟩, ⟨3, 1, (some ⟨g_1, 0, none⟩), a.length, a.length, ints .i64 (List.replicate a.length (0 : Int)), false⟩]) rfl <| wr_as (v := .slice (some ⟨g_2, 0, none⟩) a.length a.length) rfl <| wg rfl rfl <| wr_nil <| w_seq <| wq <| wm rfl rfl <| wr_y rfl (y_len underlying24 rfl) <| wm rfl rfl <| wr_nil <| w_block ?_
 refine w_loop3 (fun (q : Int) (V : List Int) (Bs : List Bool) => [(0, .slice A_a a.length c_a), (4, .slice (some ⟨g_1, 0, none⟩) a.length a.length), (5, .slice (some ⟨g_2, 0, none⟩) a.length a.length), (14, .slice A_a a.length c_a), (15, .int .i64 ((a.length : Nat) : Int)), (16, .int .i64 q)]) (fun (q : Int) (V : List Int) (Bs : List Bool) => [⟨4, 1, (some ⟨g_2, 0, none⟩), a.length, a.length, bools Bs, false⟩, ⟨3, 1, (some ⟨g_1, 0, none⟩), a.length, a.length, ints .i64 V, false⟩]) (fun (q : Int) (V : List Int) (Bs : List Bool) => (0 ≤ q) ∧ (q ≤ a.length) ∧ (InvI a V Bs q)) (fun (q : Int) (V : List Int) (Bs : List Bool) => (a.length - q).toNat) ?_ ?_
 ·
  exact ⟨0, List.replicate a.length (0 : Int), List.replicate a.length false, ⟨(by omega), (by omega), (invI_zero)⟩, (sc rfl (sc rfl (sc rfl (sc rfl (sc rfl (sc rfl Sub.nil)))))), fun _ h => h⟩
 intro q V Bs ⟨hq0, hq1, hI⟩
 have hVl := hI.len
 have hBl := hI.blen
 refine wq <| wL rfl rfl rfl <| wr_nil <| w_seq <| w_if rfl (fun hc1 => ?_) (fun hc1 => ?_)
 ·
  have hfr := hI.fresh hp hq0 (by omega)
  refine w_skip <| w_seq <| w_block <| wq <| wm rfl rfl <| wr_y rfl (y_index1 underlying24 sz3 rfl rfl (h_a.c _) (by omega) (by omega)) <| wr_y rfl (y_ldI underlying3 rfl rfl (h_a.c _) (by omega) (by omega)) <| wg rfl rfl <| wg rfl rfl <| wr_nil <| w_seq <| wq <| wm rfl rfl ?_
  refine wL rfl rfl rfl <| wm rfl rfl <| wr_mid 5 [(0, .slice A_a a.length c_a), (4, .slice (some ⟨g_1, 0, none⟩) a.length a.length), (5, .slice (some ⟨g_2, 0, none⟩) a.length a.length), (6, .int .i64 q), (7, .int .i64 (rd a q)), (14, .slice A_a a.length c_a), (15, .int .i64 ((a.length : Nat) : Int)), (16, .int .i64 q), (28, .bool (decide (((rd a q) < 0) ∨ (((a.length : Nat) : Int) ≤ (rd a q)))))] [⟨4, 1, (some ⟨g_2, 0, none⟩), a.length, a.length, bools Bs, false⟩, ⟨3, 1, (some ⟨g_1, 0, none⟩), a.length, a.length, ints .i64 V, false⟩] ?_ ?_
  ·
   refine wr_case 23 rfl (fun hc2 => ?_) (fun hc2 => ?_)
   ·
    refine wr_no rfl rfl rfl rfl <| wr_no rfl rfl rfl rfl <| wr_no rfl rfl rfl rfl <| wr_no rfl rfl rfl rfl <| wr_y rfl (y_pickT rfl rfl) <| wr_nil ?_
    exact ⟨(sc rfl (sc rfl (sc rfl (sc rfl (sc rfl (sc rfl (sc rfl (sc rfl (Sub.to rfl (mb_t (by first | omega | exact ⟨fun h => ⟨(by assumption), h⟩, fun h => h.2⟩ | exact .inl (by assumption) | exact ⟨.inr, fun h => h.resolve_left (by assumption)⟩ | exact ⟨fun h => h.resolve_left (by assumption), .inr⟩ | simp [*])) Sub.nil))))))))), fun _ h => h⟩
   ·
    refine wr_yes rfl rfl <| wm rfl rfl <| wr_yes rfl rfl <| wm rfl rfl <| wr_yes rfl rfl <| wr_y rfl (y_len underlying24 rfl) <| wr_yes rfl rfl <| wr_y rfl (y_ge rfl rfl) <| wr_y rfl (y_pickF rfl rfl) <| wr_nil ?_
    exact ⟨(sc rfl (sc rfl (sc rfl (sc rfl (sc rfl (sc rfl (sc rfl (sc rfl (Sub.to rfl (mb (by first | omega | exact ⟨fun h => ⟨(by assumption), h⟩, fun h => h.2⟩ | exact .inl (by assumption) | exact ⟨.inr, fun h => h.resolve_left (by assumption)⟩ | exact ⟨fun h => h.resolve_left (by assumption), .inr⟩ | simp [*])) Sub.nil))))))))), fun _ h => h⟩
  refine wr_setF 28 rfl (by omega) <| wm rfl rfl <| wr_yes rfl rfl <| wm rfl rfl <| wr_yes rfl rfl <| wm rfl rfl <| wr_yes rfl rfl <| wr_y rfl (y_index1 underlying101 sz4 rfl rfl (rdr 0 rfl) (by omega) (by omega)) <| wr_yes rfl rfl <| wr_y rfl (Yl.f (y_ldB underlying4 rfl rfl (rdr 0 rfl) (by omega) (by omega)) (hfr.2)) <| wr_y rfl (y_pickF rfl rfl) <| wr_nil <| w_false rfl <| w_skip <| w_reg ?_
  refine wm rfl rfl <| wm rfl rfl <| wm rfl rfl <| wm rfl rfl <| wm rfl rfl <| wr_y rfl (y_index1 underlying24 sz3 rfl rfl (rdr 1 rfl) (by omega) (by omega)) <| wr_n (a_storeI 1 rfl sz3 rfl rfl (by omega) (by omega)) ?_
  rintro _ _ rfl
  refine wr_rows (R1 := [⟨4, 1, (some ⟨g_2, 0, none⟩), a.length, a.length, bools Bs, false⟩, ⟨3, 1, (some ⟨g_1, 0, none⟩), a.length, a.length, ints .i64 (upd V (rd a q) q), false⟩]) rfl <| wr_y rfl (y_index1 underlying101 sz4 rfl rfl (rdr 0 rfl) (by omega) (by omega)) <| wr_n (a_storeB 0 rfl sz4 rfl rfl (by omega) (by omega)) ?_
  rintro _ _ rfl
  refine wr_rows (R1 := [⟨4, 1, (some ⟨g_2, 0, none⟩), a.length, a.length, bools (updB Bs (rd a q) true), false⟩, ⟨3, 1, (some ⟨g_1, 0, none⟩), a.length, a.length, ints .i64 (upd V (rd a q) q), false⟩]) rfl <| wr_nil <| w_reg <| wA rfl rfl rfl (by omega) <| wm rfl rfl <| wr_nil ?_
  exact ⟨q + 1, upd V (rd a q) q, updB Bs (rd a q) true, ⟨(by omega), (by omega), (hI.step hp hq0 (by omega))⟩, (by omega), (sc rfl (sc rfl (sc rfl (sc rfl (sc rfl (sc rfl Sub.nil)))))), fun _ h => h⟩
 ·
  refine w_exit <| wq <| wm rfl rfl <| wg rfl rfl <| wg rfl rfl <| wr_nil <| w_retR (R1 := [⟨3, 1, (some ⟨g_1, 0, none⟩), a.length, a.length, ints .i64 V, false⟩]) (fun _ h => h.sel [1] (by decide) rfl) ?_
  refine ⟨_, _, rfl, rfl, ?_⟩
  have e : q = a.length := by omega
  rw [e] at hI
  exact ⟨V, _, _, rfl, hI.all, rfl⟩

set_option maxRecDepth 100000 in
theorem isP16_ct {w : World} {A_a : Option Addr} {n_a c_a : Nat} {a : List Int} (h_a : Rd w A_a n_a c_a 1 (ints .i64 a)) (hp : a.Perm (iota a.length)) (hN : a.length ≤ 1000000) :
  Ct Tryz.prog 65 #[.slice A_a n_a c_a] w.heap.size w [] (fun v R' => v = .bool true) := by
 obtain rfl := h_a.lenI
 refine fn1 Tryz.func65 rfl rfl rfl ?_
 have m_a := h_a.max
 refine wq <| wg rfl rfl <| wr_nil <| wq <| wm rfl rfl <| wr_a rfl (a_callF en67 rfl (Ct.fresh (fun w hw => inverseP16_ct ((h_a.c _) w hw) (by first | assumption | omega | decide) (by first | assumption | omega | decide)))) ?_
 rintro _ _ ⟨_, rfl, R1, A_1, c_2, rfl, hI_R1, rfl⟩
 refine wm rfl rfl <| wX rfl rfl rfl <| wX rfl rfl rfl <| wg rfl rfl <| wg rfl rfl <| wr_nil <| wq <| wm rfl rfl <| wg rfl rfl <| wr_nil <| w_retR (R1 := []) (fun _ h => h.sel [] (by decide) rfl) ?_
 refine ⟨_, rfl, ?_⟩
 rfl

set_option maxRecDepth 100000 in
theorem behind17_ct {w : World} {A_rk : Option Addr} {n_rk c_rk : Nat} {rk : List Int} {i : Int} (h_rk : Rd w A_rk n_rk c_rk 1 (ints .i64 rk)) (hi : 0 ≤ i ∧ i < rk.length) :
  Ct Tryz.prog 110 #[.slice A_rk n_rk c_rk, .int .i64 i] w.heap.size w [] (fun v R' => v = .int .i64 (bhF rk i)) := by
 obtain rfl := h_rk.lenI
 refine fn1 Tryz.func110 rfl rfl rfl ?_
 have m_rk := h_rk.max
 refine wq <| wg rfl rfl <| wr_nil <| w_seq <| wq <| wm rfl rfl <| wA rfl rfl rfl (by omega) <| wm rfl rfl <| wr_y rfl (y_len underlying24 rfl) <| wr_y rfl (y_eq rfl rfl) <| wr_nil <| w_if rfl (fun hc1 => ?_) (fun hc1 => ?_)
 ·
  refine wq <| wg rfl rfl <| wr_nil <| w_ret ?_
  refine ⟨_, rfl, ?_⟩
  exact congrArg (Value.int .i64) (by unfold bhF; rw [if_pos hc1])
 ·
  refine w_skip <| wq <| wm rfl rfl <| wm rfl rfl <| wA rfl rfl rfl (by omega) <| wr_y rfl (y_index1 underlying24 sz3 rfl rfl (h_rk.c _) (by omega) (by omega)) <| wr_y rfl (y_ldI underlying3 rfl rfl (h_rk.c _) (by omega) (by omega)) <| wg rfl rfl <| wr_nil <| w_ret ?_
  refine ⟨_, rfl, ?_⟩
  exact congrArg (Value.int .i64) (by unfold bhF; rw [if_neg hc1])

set_option maxRecDepth 100000 in
theorem ordered17_ct {w : World} {A_u : Option Addr} {n_u c_u : Nat} {u : List Int} {A_a : Option Addr} {n_a c_a : Nat} {a : List Int} {A_rk : Option Addr} {n_rk c_rk : Nat} {rk : List Int} (h_u : Rd w A_u n_u c_u 1 (ints .u8 u)) (h_a : Rd w A_a n_a c_a 1 (ints .i64 a)) (h_rk : Rd w A_rk n_rk c_rk 1 (ints .i64 rk)) (hO : OrdR u a rk) (hN : u.length ≤ 1000000) :
  Ct Tryz.prog 80 #[.slice A_u n_u c_u, .slice A_a n_a c_a, .slice A_rk n_rk c_rk] w.heap.size w [] (fun v R' => v = .bool true) := by
 obtain rfl := h_u.lenI
 obtain rfl := h_a.lenI
 obtain rfl := h_rk.lenI
 refine fn1 Tryz.func80 rfl rfl rfl ?_
 have m_u := h_u.max
 have m_a := h_a.max
 have m_rk := h_rk.max
 refine wq <| wg rfl rfl <| wr_nil <| w_seq <| wq <| wg rfl rfl <| wr_nil <| w_block ?_
 refine w_loop1 (fun (i : Int) => [(0, .slice A_u u.length c_u), (1, .slice A_a a.length c_a), (2, .slice A_rk rk.length c_rk), (7, .int .i64 i)]) (fun (i : Int) => []) (fun (i : Int) => (1 ≤ i) ∧ (i ≤ a.length ∨ i = 1)) (fun (i : Int) => (a.length + 1 - i).toNat) ?_ ?_
 ·
  exact ⟨1, ⟨(by omega), (by omega)⟩, (sc rfl (sc rfl (sc rfl (sc rfl Sub.nil)))), fun _ h => h⟩
 intro i ⟨hi1, hi2⟩
 have hal := hO.alen
 have hrl := hO.len
 refine w_seq <| wq <| wm rfl rfl <| wm rfl rfl <| wr_y rfl (y_len underlying24 rfl) <| wL rfl rfl rfl <| wr_nil <| w_if rfl (fun hc1 => ?_) (fun hc1 => ?_)
 ·
  have hx := hO.ain (r := i - 1) (by omega) (by omega)
  have hy := hO.ain (r := i) (by omega) (by omega)
  have hno := hO.nofall hi1 (by omega)
  refine w_skip <| w_seq <| w_block <| w_seq <| w_regd mixed <| wd_y 0 rfl (by kernel_rfl) rfl (y_move rfl) <| wd_y 1 rfl (by kernel_rfl) rfl (y_move rfl) <| wd_y 2 rfl (by kernel_rfl) rfl (y_subI rfl rfl (by omega)) <| wd_y 3 rfl (by kernel_rfl) rfl (y_index1 underlying24 sz3 rfl rfl (h_a.c _) (by omega) (by omega)) <| wd_y 4 rfl (by kernel_rfl) rfl (y_ldI underlying3 rfl rfl (h_a.c _) (by omega) (by omega)) <| wd_y 5 rfl (by kernel_rfl) rfl (y_move rfl) <| wd_y 6 rfl (by kernel_rfl) rfl (y_move rfl) <| wd_y 7 rfl (by kernel_rfl) rfl (y_index1 underlying24 sz3 rfl rfl (h_a.c _) (by omega) (by omega)) <| wd_y 8 rfl (by kernel_rfl) rfl (y_ldI underlying3 rfl rfl (h_a.c _) (by omega) (by omega)) <| wd_y 9 rfl (by kernel_rfl) rfl (y_assign rfl) ?_
  refine wd_y 10 rfl (by kernel_rfl) rfl (y_assign rfl) <| wd_nil (by kernel_rfl) ?_
  refine w_join0 [(0, .slice A_u u.length c_u), (1, .slice A_a a.length c_a), (2, .slice A_rk rk.length c_rk), (7, .int .i64 i), (53, .bool (decide (((rd u (rd a i)) < (rd u (rd a (i - 1)))) ∨ (((rd u (rd a (i - 1))) = (rd u (rd a i))) ∧ ((bhF rk (rd a i)) < (bhF rk (rd a (i - 1))))))))] [] ?_ ?_
  ·
   refine w_regd mixed <| wd_y 0 rfl (by kernel_rfl) rfl (y_move rfl) <| wd_y 1 rfl (by kernel_rfl) rfl (y_move rfl) <| wd_y 2 rfl (by kernel_rfl) rfl (y_index1 underlying23 sz5 rfl rfl (h_u.c _) (by omega) (by omega)) <| wd_y 3 rfl (by kernel_rfl) rfl (y_ldI underlying5 rfl rfl (h_u.c _) (by omega) (by omega)) <| wd_y 4 rfl (by kernel_rfl) rfl (y_move rfl) <| wd_y 5 rfl (by kernel_rfl) rfl (y_move rfl) <| wd_y 6 rfl (by kernel_rfl) rfl (y_index1 underlying23 sz5 rfl rfl (h_u.c _) (by omega) (by omega)) <| wd_y 7 rfl (by kernel_rfl) rfl (y_ldI underlying5 rfl rfl (h_u.c _) (by omega) (by omega)) <| wd_y 8 rfl (by kernel_rfl) rfl (y_gt rfl rfl) <| wd_y 9 rfl (by kernel_rfl) rfl (y_move rfl) <| wd_case 34 rfl (fun hc2 => ?_) (fun hc2 => ?_)
   ·
    refine wd_no 10 rfl (by kernel_rfl) rfl rfl rfl rfl <| wd_no 11 rfl (by kernel_rfl) rfl rfl rfl rfl <| wd_no 12 rfl (by kernel_rfl) rfl rfl rfl rfl <| wd_no 13 rfl (by kernel_rfl) rfl rfl rfl rfl <| wd_no 14 rfl (by kernel_rfl) rfl rfl rfl rfl <| wd_no 15 rfl (by kernel_rfl) rfl rfl rfl rfl <| wd_no 16 rfl (by kernel_rfl) rfl rfl rfl rfl <| wd_no 17 rfl (by kernel_rfl) rfl rfl rfl rfl <| wd_no 18 rfl (by kernel_rfl) rfl rfl rfl rfl <| wd_no 19 rfl (by kernel_rfl) rfl rfl rfl rfl <| wd_nou 20 rfl (by kernel_rfl) rfl rfl rfl <| wd_nou 21 rfl (by kernel_rfl) rfl rfl rfl <| wd_nou 22 rfl (by kernel_rfl) rfl rfl rfl <| wd_nou 23 rfl (by kernel_rfl) rfl rfl rfl <| wd_nou 24 rfl (by kernel_rfl) rfl rfl rfl ?_
    refine wd_nou 25 rfl (by kernel_rfl) rfl rfl rfl <| wd_nou 26 rfl (by kernel_rfl) rfl rfl rfl <| wd_no 27 rfl (by kernel_rfl) rfl rfl rfl rfl <| wd_y 28 rfl (by kernel_rfl) rfl (y_pickT rfl rfl) <| wd_nil (by kernel_rfl) ?_
    exact ⟨(sc rfl (sc rfl (sc rfl (sc rfl (Sub.to rfl (mb_t (by first | omega | exact ⟨fun h => ⟨(by assumption), h⟩, fun h => h.2⟩ | exact .inl (by assumption) | exact ⟨.inr, fun h => h.resolve_left (by assumption)⟩ | exact ⟨fun h => h.resolve_left (by assumption), .inr⟩ | simp [*])) Sub.nil))))), fun _ h => h⟩
   ·
    refine wd_yg 10 rfl (by kernel_rfl) rfl rfl rfl (y_move rfl) <| wd_yg 11 rfl (by kernel_rfl) rfl rfl rfl (y_move rfl) <| wd_yg 12 rfl (by kernel_rfl) rfl rfl rfl (y_index1 underlying23 sz5 rfl rfl (h_u.c _) (by omega) (by omega)) <| wd_yg 13 rfl (by kernel_rfl) rfl rfl rfl (y_ldI underlying5 rfl rfl (h_u.c _) (by omega) (by omega)) <| wd_yg 14 rfl (by kernel_rfl) rfl rfl rfl (y_move rfl) <| wd_yg 15 rfl (by kernel_rfl) rfl rfl rfl (y_move rfl) <| wd_yg 16 rfl (by kernel_rfl) rfl rfl rfl (y_index1 underlying23 sz5 rfl rfl (h_u.c _) (by omega) (by omega)) <| wd_yg 17 rfl (by kernel_rfl) rfl rfl rfl (y_ldI underlying5 rfl rfl (h_u.c _) (by omega) (by omega)) <| wd_yg 18 rfl (by kernel_rfl) rfl rfl rfl (y_eq rfl rfl) <| wd_yg 19 rfl (by kernel_rfl) rfl rfl rfl (y_move rfl) <| wd_case 44 rfl (fun hc3 => ?_) (fun hc3 => ?_)
    ·
     refine wd_yg 20 rfl (by kernel_rfl) rfl rfl rfl (y_move rfl) <| wd_yg 21 rfl (by kernel_rfl) rfl rfl rfl (y_move rfl) <| wd_yg 23 rfl (by kernel_rfl) rfl rfl rfl (y_move rfl) <| wd_yg 24 rfl (by kernel_rfl) rfl rfl rfl (y_move rfl) <| wd_ag 22 rfl (by kernel_rfl) rfl rfl rfl (a_callF en110 rfl (Ct.quiet (fun w hw => behind17_ct ((h_rk.c _) w hw) (by omega)))) ?_
     rintro _ _ ⟨rfl, rfl⟩
     refine ⟨.inr fun _ h => h, ?_⟩
     refine wd_ag 25 rfl (by kernel_rfl) rfl rfl rfl (a_callF en110 rfl (Ct.quiet (fun w hw => behind17_ct ((h_rk.c _) w hw) (by omega)))) ?_
     rintro _ _ ⟨rfl, rfl⟩
     refine ⟨.inr fun _ h => h, ?_⟩
     refine wd_yg 26 rfl (by kernel_rfl) rfl rfl rfl (y_gt rfl rfl) <| wd_yg 27 rfl (by kernel_rfl) rfl rfl rfl (y_pickT rfl rfl) <| wd_y 28 rfl (by kernel_rfl) rfl (y_pickF rfl rfl) <| wd_nil (by kernel_rfl) ?_
     exact ⟨(sc rfl (sc rfl (sc rfl (sc rfl (Sub.to rfl (mb (by first | omega | exact ⟨fun h => ⟨(by assumption), h⟩, fun h => h.2⟩ | exact .inl (by assumption) | exact ⟨.inr, fun h => h.resolve_left (by assumption)⟩ | exact ⟨fun h => h.resolve_left (by assumption), .inr⟩ | simp [*])) Sub.nil))))), fun _ h => h⟩
    ·
     refine wd_no 20 rfl (by kernel_rfl) rfl rfl rfl rfl <| wd_no 21 rfl (by kernel_rfl) rfl rfl rfl rfl <| wd_no 22 rfl (by kernel_rfl) rfl rfl rfl rfl <| wd_no 23 rfl (by kernel_rfl) rfl rfl rfl rfl <| wd_no 24 rfl (by kernel_rfl) rfl rfl rfl rfl <| wd_no 25 rfl (by kernel_rfl) rfl rfl rfl rfl <| wd_no 26 rfl (by kernel_rfl) rfl rfl rfl rfl <| wd_yg 27 rfl (by kernel_rfl) rfl rfl rfl (y_pickF rfl rfl) <| wd_y 28 rfl (by kernel_rfl) rfl (y_pickF rfl rfl) <| wd_nil (by kernel_rfl) ?_
     exact ⟨(sc rfl (sc rfl (sc rfl (sc rfl (Sub.to rfl (mb_f (by first | omega | exact ⟨fun h => ⟨(by assumption), h⟩, fun h => h.2⟩ | exact .inl (by assumption) | exact ⟨.inr, fun h => h.resolve_left (by assumption)⟩ | exact ⟨fun h => h.resolve_left (by assumption), .inr⟩ | simp [*])) Sub.nil))))), fun _ h => h⟩
  refine w_if rfl (fun hc4 => ?_) (fun hc4 => ?_)
  ·
   refine wq <| wg rfl rfl <| wr_nil <| w_ret ?_
   refine ⟨_, rfl, ?_⟩
   exact absurd (by assumption) hno
  ·
   refine w_skip <| w_reg <| wm rfl rfl <| wA rfl rfl rfl (by omega) <| wg rfl rfl <| wr_nil ?_
   exact ⟨i + 1, ⟨(by omega), (by omega)⟩, (by omega), (sc rfl (sc rfl (sc rfl (sc rfl Sub.nil)))), fun _ h => h⟩
 ·
  refine w_exit <| wq <| wg rfl rfl <| wr_nil <| w_ret ?_
  refine ⟨_, rfl, ?_⟩
  rfl

set_option maxRecDepth 100000 in
theorem quick17_ct {w : World} {A_u : Option Addr} {n_u c_u : Nat} {u : List Int} {A_a : Option Addr} {n_a c_a : Nat} {a : List Int} {A_rk : Option Addr} {n_rk c_rk : Nat} {rk : List Int} (h_u : Rd w A_u n_u c_u 1 (ints .u8 u)) (h_a : Rd w A_a n_a c_a 1 (ints .i64 a)) (h_rk : Rd w A_rk n_rk c_rk 1 (ints .i64 rk)) (hO : OrdR u a rk) (hN : u.length ≤ 1000000) :
  Ct Tryz.prog 81 #[.slice A_u n_u c_u, .slice A_a n_a c_a, .slice A_rk n_rk c_rk] w.heap.size w [] (fun v R' => ∃ A c, v = .slice A (a.length) c ∧ R' = [⟨3, 1, A, a.length, c, ints .i64 (lcpV u a), false⟩]) := by
 obtain rfl := h_u.lenI
 obtain rfl := h_a.lenI
 obtain rfl := h_rk.lenI
 refine fn1 Tryz.func81 rfl rfl rfl ?_
 have m_u := h_u.max
 have m_a := h_a.max
 have m_rk := h_rk.max
 have hal := hO.alen
 have hrl := hO.len
 refine wq <| wg rfl rfl <| wr_nil <| wq <| wm rfl rfl <| wr_y rfl (y_len underlying24 rfl) <| wr_a rfl (a_makeN underlying24 zb3 rfl rfl (by omega) (by omega) (by omega)) ?_
 rintro _ _ ⟨g_1, rfl, rfl⟩
 refine wr_rows (R1 := [⟨3, 1, (some ⟨g_1, 0, none⟩), a.length, a.length, ints .i64 (List.replicate a.length (0 : Int)), false⟩]) rfl <| wr_as (v := .slice (some ⟨g_1, 0, none⟩) a.length a.length) rfl <| wg rfl rfl <| wr_nil <| wq <| wg rfl rfl <| wr_nil <| w_seq <| wq <| wm rfl rfl <| wr_y rfl (y_len underlying24 rfl) <| wm rfl rfl <| wr_nil ?_
 refine w_block ?_
 refine w_loop3 (fun (i : Int) (n : Int) (V : List Int) => [(0, .slice A_u u.length c_u), (1, .slice A_a a.length c_a), (7, .slice (some ⟨g_1, 0, none⟩) a.length a.length), (8, .int .i64 n), (15, .slice A_rk rk.length c_rk), (16, .int .i64 ((rk.length : Nat) : Int)), (17, .int .i64 i)]) (fun (i : Int) (n : Int) (V : List Int) => [⟨3, 1, (some ⟨g_1, 0, none⟩), a.length, a.length, ints .i64 V, false⟩]) (fun (i : Int) (n : Int) (V : List Int) => (0 ≤ i) ∧ (i ≤ rk.length) ∧ (KasI u a rk V i n)) (fun (i : Int) (n : Int) (V : List Int) => (rk.length - i).toNat) ?_ ?_
 ·
  exact ⟨0, 0, List.replicate a.length (0 : Int), ⟨(by omega), (by omega), (by rw [hal]; exact kasI_zero)⟩, (sc rfl (sc rfl (sc rfl (sc rfl (sc rfl (sc rfl (sc rfl Sub.nil))))))), fun _ h => h⟩
 intro i n V ⟨hi0, hi1, hK⟩
 have hVl := hK.len
 have hKn := hK.n0
 refine wq <| wL rfl rfl rfl <| wr_nil <| w_seq <| w_if rfl (fun hc1 => ?_) (fun hc1 => ?_)
 ·
  have hri := (hO.at_ hi0 (by omega)).1
  refine w_skip <| w_seq <| w_block <| wq <| wm rfl rfl <| wr_y rfl (y_index1 underlying24 sz3 rfl rfl (h_rk.c _) (by omega) (by omega)) <| wr_y rfl (y_ldI underlying3 rfl rfl (h_rk.c _) (by omega) (by omega)) <| wg rfl rfl <| wg rfl rfl <| wr_nil <| w_seq <| wq <| wm rfl rfl ?_
  refine wr_y rfl (y_eq rfl rfl) <| wr_nil <| w_if rfl (fun hc2 => ?_) (fun hc2 => ?_)
  ·
   refine wq <| wg rfl rfl <| wr_nil <| w_exit <| w_reg <| wA rfl rfl rfl (by omega) <| wm rfl rfl <| wr_nil ?_
   exact ⟨i + 1, 0, V, ⟨(by omega), (by omega), (hK.skip hO hi0 (by omega) hc2)⟩, (by omega), (sc rfl (sc rfl (sc rfl (sc rfl (sc rfl (sc rfl (sc rfl Sub.nil))))))), fun _ h => h⟩
  ·
   have hj := hO.ain (r := rd rk i - 1) (by omega) (by omega)
   have hcb := com_bd (s := u) (i := i) (j := rd a (rd rk i - 1)) hi0 (by omega) hj.1 (by omega)
   refine w_skip <| wq <| wm rfl rfl <| wm rfl rfl <| wS rfl rfl rfl (by omega) <| wr_y rfl (y_index1 underlying24 sz3 rfl rfl (h_a.c _) (by omega) (by omega)) <| wr_y rfl (y_ldI underlying3 rfl rfl (h_a.c _) (by omega) (by omega)) <| wg rfl rfl <| wr_nil <| w_seq <| w_block ?_
   refine w_loop1 (fun (m : Int) => [(0, .slice A_u u.length c_u), (1, .slice A_a a.length c_a), (7, .slice (some ⟨g_1, 0, none⟩) a.length a.length), (8, .int .i64 m), (9, .int .i64 i), (10, .int .i64 (rd rk i)), (11, .int .i64 (rd a ((rd rk i) - 1))), (15, .slice A_rk rk.length c_rk), (16, .int .i64 ((rk.length : Nat) : Int)), (17, .int .i64 i)]) (fun (m : Int) => [⟨3, 1, (some ⟨g_1, 0, none⟩), a.length, a.length, ints .i64 V, false⟩]) (fun (m : Int) => (0 ≤ m) ∧ (m.toNat ≤ com u i (rd a (rd rk i - 1)))) (fun (m : Int) => (u.length - m).toNat) ?_ ?_
   ·
    exact ⟨n, ⟨(by omega), (hK.nl (by omega) (by omega))⟩, (sc rfl (sc rfl (sc rfl (sc rfl (sc rfl (sc rfl (sc rfl (sc rfl (sc rfl (sc rfl Sub.nil)))))))))), fun _ h => h⟩
   intro m ⟨hm0, hmc⟩
   have hmb : m ≤ u.length := by omega
   refine w_seq ?_
   refine w_join0 [(0, .slice A_u u.length c_u), (1, .slice A_a a.length c_a), (7, .slice (some ⟨g_1, 0, none⟩) a.length a.length), (8, .int .i64 m), (9, .int .i64 i), (10, .int .i64 (rd rk i)), (11, .int .i64 (rd a ((rd rk i) - 1))), (15, .slice A_rk rk.length c_rk), (16, .int .i64 ((rk.length : Nat) : Int)), (17, .int .i64 i), (51, .bool (decide ((((max i (rd a ((rd rk i) - 1))) + m) < ((u.length : Nat) : Int)) ∧ ((rd u (i + m)) = (rd u ((rd a ((rd rk i) - 1)) + m))))))] [⟨3, 1, (some ⟨g_1, 0, none⟩), a.length, a.length, ints .i64 V, false⟩] ?_ ?_
   ·
    refine w_regd mixed <| wd_y 0 rfl (by kernel_rfl) rfl (y_move rfl) <| wd_y 1 rfl (by kernel_rfl) rfl (y_move rfl) <| wd_y 2 rfl (by kernel_rfl) rfl (y_max rfl rfl) <| wd_y 3 rfl (by kernel_rfl) rfl (y_move rfl) <| wd_y 4 rfl (by kernel_rfl) rfl (y_addI rfl rfl (by omega)) <| wd_y 5 rfl (by kernel_rfl) rfl (y_move rfl) <| wd_y 6 rfl (by kernel_rfl) rfl (y_len underlying23 rfl) <| wd_y 7 rfl (by kernel_rfl) rfl (y_lt rfl rfl) <| wd_y 8 rfl (by kernel_rfl) rfl (y_move rfl) <| wd_case 37 rfl (fun hc3 => ?_) (fun hc3 => ?_)
    ·
     refine wd_yg 9 rfl (by kernel_rfl) rfl rfl rfl (y_move rfl) <| wd_yg 10 rfl (by kernel_rfl) rfl rfl rfl (y_move rfl) <| wd_yg 11 rfl (by kernel_rfl) rfl rfl rfl (y_move rfl) <| wd_yg 12 rfl (by kernel_rfl) rfl rfl rfl (y_addI rfl rfl (by omega)) <| wd_yg 13 rfl (by kernel_rfl) rfl rfl rfl (y_index1 underlying23 sz5 rfl rfl (h_u.c _) (by omega) (by omega)) <| wd_yg 14 rfl (by kernel_rfl) rfl rfl rfl (y_ldI underlying5 rfl rfl (h_u.c _) (by omega) (by omega)) <| wd_yg 15 rfl (by kernel_rfl) rfl rfl rfl (y_move rfl) <| wd_yg 16 rfl (by kernel_rfl) rfl rfl rfl (y_move rfl) <| wd_yg 17 rfl (by kernel_rfl) rfl rfl rfl (y_move rfl) <| wd_yg 18 rfl (by kernel_rfl) rfl rfl rfl (y_addI rfl rfl (by omega)) <| wd_yg 19 rfl (by kernel_rfl) rfl rfl rfl (y_index1 underlying23 sz5 rfl rfl (h_u.c _) (by omega) (by omega)) <| wd_yg 20 rfl (by kernel_rfl) rfl rfl rfl (y_ldI underlying5 rfl rfl (h_u.c _) (by omega) (by omega)) <| wd_yg 21 rfl (by kernel_rfl) rfl rfl rfl (y_eq rfl rfl) <| wd_y 22 rfl (by kernel_rfl) rfl (y_pickT rfl rfl) <| wd_nil (by kernel_rfl) ?_
     exact ⟨(sc rfl (sc rfl (sc rfl (sc rfl (sc rfl (sc rfl (sc rfl (sc rfl (sc rfl (sc rfl (Sub.to rfl (mb (by first | omega | exact ⟨fun h => ⟨(by assumption), h⟩, fun h => h.2⟩ | exact .inl (by assumption) | exact ⟨.inr, fun h => h.resolve_left (by assumption)⟩ | exact ⟨fun h => h.resolve_left (by assumption), .inr⟩ | simp [*])) Sub.nil))))))))))), fun _ h => h⟩
    ·
     refine wd_no 9 rfl (by kernel_rfl) rfl rfl rfl rfl <| wd_no 10 rfl (by kernel_rfl) rfl rfl rfl rfl <| wd_no 11 rfl (by kernel_rfl) rfl rfl rfl rfl <| wd_no 12 rfl (by kernel_rfl) rfl rfl rfl rfl <| wd_no 13 rfl (by kernel_rfl) rfl rfl rfl rfl <| wd_no 14 rfl (by kernel_rfl) rfl rfl rfl rfl <| wd_no 15 rfl (by kernel_rfl) rfl rfl rfl rfl <| wd_no 16 rfl (by kernel_rfl) rfl rfl rfl rfl <| wd_no 17 rfl (by kernel_rfl) rfl rfl rfl rfl <| wd_no 18 rfl (by kernel_rfl) rfl rfl rfl rfl <| wd_no 19 rfl (by kernel_rfl) rfl rfl rfl rfl <| wd_no 20 rfl (by kernel_rfl) rfl rfl rfl rfl <| wd_no 21 rfl (by kernel_rfl) rfl rfl rfl rfl <| wd_y 22 rfl (by kernel_rfl) rfl (y_pickF rfl rfl) <| wd_nil (by kernel_rfl) ?_
     exact ⟨(sc rfl (sc rfl (sc rfl (sc rfl (sc rfl (sc rfl (sc rfl (sc rfl (sc rfl (sc rfl (Sub.to rfl (mb_f (by first | omega | exact ⟨fun h => ⟨(by assumption), h⟩, fun h => h.2⟩ | exact .inl (by assumption) | exact ⟨.inr, fun h => h.resolve_left (by assumption)⟩ | exact ⟨fun h => h.resolve_left (by assumption), .inr⟩ | simp [*])) Sub.nil))))))))))), fun _ h => h⟩
   refine w_if rfl (fun hc4 => ?_) (fun hc4 => ?_)
   ·
    refine w_skip <| w_block <| w_reg <| wm rfl rfl <| wA rfl rfl rfl (by omega) <| wg rfl rfl <| wr_nil ?_
    exact ⟨m + 1, ⟨(by omega), (com_up hi0 hj.1 hm0 hmc (by assumption))⟩, (by omega), (sc rfl (sc rfl (sc rfl (sc rfl (sc rfl (sc rfl (sc rfl (sc rfl (sc rfl (sc rfl Sub.nil)))))))))), fun _ h => h⟩
   ·
    have hme := com_stop hi0 hj.1 hm0 hmc (by assumption)
    refine w_exit <| wq <| wm rfl rfl <| wm rfl rfl <| wm rfl rfl <| wr_y rfl (y_index1 underlying24 sz3 rfl rfl (rdr 0 rfl) (by omega) (by omega)) <| wr_n (a_storeI 0 rfl sz3 rfl rfl (by omega) (by omega)) ?_
    rintro _ _ rfl
    refine wr_rows (R1 := [⟨3, 1, (some ⟨g_1, 0, none⟩), a.length, a.length, ints .i64 (upd V (rd rk i) m), false⟩]) rfl <| wr_nil <| w_reg <| wm rfl rfl <| wS rfl rfl rfl (by omega) <| wr_y rfl (y_max rfl rfl) <| wg rfl rfl <| wr_nil <| w_reg <| wA rfl rfl rfl (by omega) <| wm rfl rfl <| wr_nil ?_
    exact ⟨i + 1, max (m - 1) 0, upd V (rd rk i) m, ⟨(by omega), (by omega), (hK.put hO hi0 (by omega) hc2 hme)⟩, (by omega), (sc rfl (sc rfl (sc rfl (sc rfl (sc rfl (sc rfl (sc rfl Sub.nil))))))), fun _ h => h⟩
 ·
  refine w_exit <| wq <| wm rfl rfl <| wg rfl rfl <| wr_nil <| w_retR (R1 := [⟨3, 1, (some ⟨g_1, 0, none⟩), a.length, a.length, ints .i64 V, false⟩]) (fun _ h => h.sel [0] (by decide) rfl) ?_
  refine ⟨_, rfl, ?_⟩
  have e : i = u.length := by omega
  rw [e] at hK
  obtain rfl := hK.done hO
  exact ⟨_, _, rfl, rfl⟩

set_option maxRecDepth 100000 in
theorem lcp17_ct {w : World} {A_u : Option Addr} {n_u c_u : Nat} {u : List Int} {A_a : Option Addr} {n_a c_a : Nat} {a : List Int} (h_u : Rd w A_u n_u c_u 1 (ints .u8 u)) (h_a : Rd w A_a n_a c_a 1 (ints .i64 a)) (hap : a.Perm (iota u.length)) (has : a.Pairwise (ordE u)) (hN : u.length ≤ 1000000) :
  Ct Tryz.prog 49 #[.slice A_u n_u c_u, .slice A_a n_a c_a] w.heap.size w [] (fun v R' => ∃ A c, v = .tuple #[.slice A a.length c, .bool true] ∧ R' = [⟨3, 1, A, a.length, c, ints .i64 (lcpV u a), false⟩]) := by
 obtain rfl := h_u.lenI
 obtain rfl := h_a.lenI
 refine fn2 Tryz.func49 rfl rfl rfl ?_
 have m_u := h_u.max
 have m_a := h_a.max
 have hal : a.length = u.length := by rw [hap.length_eq, iota_len]
 refine wq <| wg rfl rfl <| wg rfl rfl <| wr_nil <| wq <| wm rfl rfl <| wr_a rfl (a_callF en67 rfl (Ct.fresh (fun w hw => inverseP16_ct ((h_a.c _) w hw) (perm_self hap) (by omega)))) ?_
 rintro _ _ ⟨_, rfl, R1, A_1, c_2, rfl, hI_R1, rfl⟩
 refine wm rfl rfl <| wX rfl rfl rfl <| wX rfl rfl rfl <| wg rfl rfl <| wg rfl rfl <| wr_nil <| w_seq <| wq <| wm rfl rfl <| wr_y rfl (y_not rfl) <| wm rfl rfl <| wr_yes rfl rfl <| wm rfl rfl <| wr_yes rfl rfl ?_
 refine wr_y rfl (y_len underlying24 rfl) <| wr_yes rfl rfl <| wm rfl rfl <| wr_yes rfl rfl <| wr_y rfl (y_len underlying23 rfl) <| wr_yes rfl rfl <| wr_y rfl (Yl.f (y_ne rfl rfl) (by omega)) <| wr_y rfl (y_pickF rfl rfl) <| wr_nil <| w_false rfl <| w_skip <| w_seq <| wq <| wm rfl rfl ?_
 refine wm rfl rfl <| wm rfl rfl <| wr_a rfl (a_callF en80 rfl (Ct.quiet (fun w hw => ordered17_ct ((h_u.c _) w hw) ((h_a.c _) w hw) ((rdr 0 rfl) w hw) (hI_R1.ord hap has) hN))) ?_
 rintro _ _ ⟨rfl, rfl⟩
 refine wr_setT 27 rfl (trivial) <| wr_nil <| w_true rfl <| wq <| wm rfl rfl <| wm rfl rfl <| wm rfl rfl <| wr_a rfl (a_callF en81 rfl (Ct.fresh (fun w hw => quick17_ct ((h_u.c _) w hw) ((h_a.c _) w hw) ((rdr 0 rfl) w hw) (hI_R1.ord hap has) hN))) ?_
 rintro _ _ ⟨_, rfl, A_4, c_5, rfl, rfl⟩
 refine wg rfl rfl <| wg rfl rfl <| wr_nil <| w_retR (R1 := [⟨3, 1, A_4, ((a).length), c_5, ints .i64 (lcpV u a), false⟩]) (fun _ h => h.sel [0] (by decide) rfl) ?_
 refine ⟨_, _, rfl, rfl, ?_⟩
 exact ⟨_, _, rfl, rfl⟩

set_option maxRecDepth 100000 in
theorem ending4_ct {w : World} {A_u : Option Addr} {n_u c_u : Nat} {u : List Int} {i : Int} (h_u : Rd w A_u n_u c_u 1 (ints .u8 u)) :
  Ct Tryz.prog 111 #[.slice A_u n_u c_u, .int .i64 i] w.heap.size w [] (fun v R' => v = .bool (decide (0 ≤ i ∧ i ≤ u.length))) := by
 obtain rfl := h_u.lenI
 refine fn1 Tryz.func111 rfl rfl rfl ?_
 have m_u := h_u.max
 refine wq <| wg rfl rfl <| wr_nil <| wq <| wm rfl rfl <| wr_y rfl (y_ge rfl rfl) <| wm rfl rfl <| wr_mid 5 [(12, .bool (decide ((0 ≤ i) ∧ (i ≤ ((u.length : Nat) : Int)))))] [] ?_ ?_
 ·
  refine wr_case 7 rfl (fun hc1 => ?_) (fun hc1 => ?_)
  ·
   refine wr_yes rfl rfl <| wm rfl rfl <| wr_yes rfl rfl <| wm rfl rfl <| wr_yes rfl rfl <| wr_y rfl (y_len underlying23 rfl) <| wr_yes rfl rfl <| wr_y rfl (y_le rfl rfl) <| wr_y rfl (y_pickT rfl rfl) <| wr_nil ?_
   exact ⟨(Sub.to rfl (mb (by first | omega | exact ⟨fun h => ⟨(by assumption), h⟩, fun h => h.2⟩ | exact .inl (by assumption) | exact ⟨.inr, fun h => h.resolve_left (by assumption)⟩ | exact ⟨fun h => h.resolve_left (by assumption), .inr⟩ | simp [*])) Sub.nil), fun _ h => h⟩
  ·
   refine wr_no rfl rfl rfl rfl <| wr_no rfl rfl rfl rfl <| wr_no rfl rfl rfl rfl <| wr_no rfl rfl rfl rfl <| wr_y rfl (y_pickF rfl rfl) <| wr_nil ?_
   exact ⟨(Sub.to rfl (mb_f (by first | omega | exact ⟨fun h => ⟨(by assumption), h⟩, fun h => h.2⟩ | exact .inl (by assumption) | exact ⟨.inr, fun h => h.resolve_left (by assumption)⟩ | exact ⟨fun h => h.resolve_left (by assumption), .inr⟩ | simp [*])) Sub.nil), fun _ h => h⟩
 refine wg rfl rfl <| wr_nil <| w_ret ?_
 refine ⟨_, rfl, ?_⟩
 rfl

set_option maxRecDepth 100000 in
theorem common4_ct {w : World} {A_u : Option Addr} {n_u c_u : Nat} {u : List Int} {i : Int} {j : Int} (h_u : Rd w A_u n_u c_u 1 (ints .u8 u)) (hij : (0 ≤ i ∧ i ≤ u.length) ∧ (0 ≤ j ∧ j ≤ u.length)) (hN : u.length ≤ 1000000) :
  Ct Tryz.prog 82 #[.slice A_u n_u c_u, .int .i64 i, .int .i64 j] w.heap.size w [] (fun v R' => v = .int .i64 (com u i j : Int)) := by
 obtain rfl := h_u.lenI
 refine fn1 Tryz.func82 rfl rfl rfl ?_
 have m_u := h_u.max
 have hcb := com_bd (s := u) hij.1.1 hij.1.2 hij.2.1 hij.2.2
 refine wq <| wg rfl rfl <| wr_nil <| w_seq <| wq <| wm rfl rfl <| wm rfl rfl <| wr_a rfl (a_callF en111 rfl (Ct.quiet (fun w hw => ending4_ct ((h_u.c _) w hw)))) ?_
 rintro _ _ ⟨rfl, rfl⟩
 refine wr_setT 10 rfl (by omega) <| wr_y rfl (y_not rfl) <| wm rfl rfl <| wr_yes rfl rfl <| wm rfl rfl <| wr_yes rfl rfl <| wm rfl rfl <| wr_yes rfl rfl <| wr_a rfl (a_callF en111 rfl (Ct.quiet (fun w hw => ending4_ct ((h_u.c _) w hw)))) ?_
 rintro _ _ ⟨rfl, rfl⟩
 refine wr_setT 15 rfl (by omega) <| wr_yes rfl rfl <| wr_y rfl (y_not rfl) <| wr_y rfl (y_pickF rfl rfl) <| wr_nil <| w_false rfl <| w_skip <| wq <| wg rfl rfl <| wr_nil <| w_seq <| w_block ?_
 refine w_loop1 (fun (m : Int) => [(0, .slice A_u u.length c_u), (1, .int .i64 i), (2, .int .i64 j), (7, .int .i64 m)]) (fun (m : Int) => []) (fun (m : Int) => (0 ≤ m) ∧ (m.toNat ≤ com u i j)) (fun (m : Int) => (u.length - m).toNat) ?_ ?_
 ·
  exact ⟨0, ⟨(by omega), (Nat.zero_le _)⟩, (sc rfl (sc rfl (sc rfl (sc rfl Sub.nil)))), fun _ h => h⟩
 intro m ⟨hm0, hmc⟩
 have hmb : m ≤ u.length := by omega
 refine w_seq ?_
 refine w_join0 [(0, .slice A_u u.length c_u), (1, .int .i64 i), (2, .int .i64 j), (7, .int .i64 m), (40, .bool (decide ((((max i j) + m) < ((u.length : Nat) : Int)) ∧ ((rd u (i + m)) = (rd u (j + m))))))] [] ?_ ?_
 ·
  refine w_regd mixed <| wd_y 0 rfl (by kernel_rfl) rfl (y_move rfl) <| wd_y 1 rfl (by kernel_rfl) rfl (y_move rfl) <| wd_y 2 rfl (by kernel_rfl) rfl (y_max rfl rfl) <| wd_y 3 rfl (by kernel_rfl) rfl (y_move rfl) <| wd_y 4 rfl (by kernel_rfl) rfl (y_addI rfl rfl (by omega)) <| wd_y 5 rfl (by kernel_rfl) rfl (y_move rfl) <| wd_y 6 rfl (by kernel_rfl) rfl (y_len underlying23 rfl) <| wd_y 7 rfl (by kernel_rfl) rfl (y_lt rfl rfl) <| wd_y 8 rfl (by kernel_rfl) rfl (y_move rfl) <| wd_case 26 rfl (fun hc1 => ?_) (fun hc1 => ?_)
  ·
   refine wd_yg 9 rfl (by kernel_rfl) rfl rfl rfl (y_move rfl) <| wd_yg 10 rfl (by kernel_rfl) rfl rfl rfl (y_move rfl) <| wd_yg 11 rfl (by kernel_rfl) rfl rfl rfl (y_move rfl) <| wd_yg 12 rfl (by kernel_rfl) rfl rfl rfl (y_addI rfl rfl (by omega)) <| wd_yg 13 rfl (by kernel_rfl) rfl rfl rfl (y_index1 underlying23 sz5 rfl rfl (h_u.c _) (by omega) (by omega)) <| wd_yg 14 rfl (by kernel_rfl) rfl rfl rfl (y_ldI underlying5 rfl rfl (h_u.c _) (by omega) (by omega)) <| wd_yg 15 rfl (by kernel_rfl) rfl rfl rfl (y_move rfl) <| wd_yg 16 rfl (by kernel_rfl) rfl rfl rfl (y_move rfl) <| wd_yg 17 rfl (by kernel_rfl) rfl rfl rfl (y_move rfl) <| wd_yg 18 rfl (by kernel_rfl) rfl rfl rfl (y_addI rfl rfl (by omega)) <| wd_yg 19 rfl (by kernel_rfl) rfl rfl rfl (y_index1 underlying23 sz5 rfl rfl (h_u.c _) (by omega) (by omega)) <| wd_yg 20 rfl (by kernel_rfl) rfl rfl rfl (y_ldI underlying5 rfl rfl (h_u.c _) (by omega) (by omega)) <| wd_yg 21 rfl (by kernel_rfl) rfl rfl rfl (y_eq rfl rfl) <| wd_y 22 rfl (by kernel_rfl) rfl (y_pickT rfl rfl) <| wd_nil (by kernel_rfl) ?_
   exact ⟨(sc rfl (sc rfl (sc rfl (sc rfl (Sub.to rfl (mb (by first | omega | exact ⟨fun h => ⟨(by assumption), h⟩, fun h => h.2⟩ | exact .inl (by assumption) | exact ⟨.inr, fun h => h.resolve_left (by assumption)⟩ | exact ⟨fun h => h.resolve_left (by assumption), .inr⟩ | simp [*])) Sub.nil))))), fun _ h => h⟩
  ·
   refine wd_no 9 rfl (by kernel_rfl) rfl rfl rfl rfl <| wd_no 10 rfl (by kernel_rfl) rfl rfl rfl rfl <| wd_no 11 rfl (by kernel_rfl) rfl rfl rfl rfl <| wd_no 12 rfl (by kernel_rfl) rfl rfl rfl rfl <| wd_no 13 rfl (by kernel_rfl) rfl rfl rfl rfl <| wd_no 14 rfl (by kernel_rfl) rfl rfl rfl rfl <| wd_no 15 rfl (by kernel_rfl) rfl rfl rfl rfl <| wd_no 16 rfl (by kernel_rfl) rfl rfl rfl rfl <| wd_no 17 rfl (by kernel_rfl) rfl rfl rfl rfl <| wd_no 18 rfl (by kernel_rfl) rfl rfl rfl rfl <| wd_no 19 rfl (by kernel_rfl) rfl rfl rfl rfl <| wd_no 20 rfl (by kernel_rfl) rfl rfl rfl rfl <| wd_no 21 rfl (by kernel_rfl) rfl rfl rfl rfl <| wd_y 22 rfl (by kernel_rfl) rfl (y_pickF rfl rfl) <| wd_nil (by kernel_rfl) ?_
   exact ⟨(sc rfl (sc rfl (sc rfl (sc rfl (Sub.to rfl (mb_f (by first | omega | exact ⟨fun h => ⟨(by assumption), h⟩, fun h => h.2⟩ | exact .inl (by assumption) | exact ⟨.inr, fun h => h.resolve_left (by assumption)⟩ | exact ⟨fun h => h.resolve_left (by assumption), .inr⟩ | simp [*])) Sub.nil))))), fun _ h => h⟩
 refine w_if rfl (fun hc2 => ?_) (fun hc2 => ?_)
 ·
  refine w_skip <| w_block <| w_reg <| wm rfl rfl <| wA rfl rfl rfl (by omega) <| wg rfl rfl <| wr_nil ?_
  exact ⟨m + 1, ⟨(by omega), (com_up hij.1.1 hij.2.1 hm0 hmc (by assumption))⟩, (by omega), (sc rfl (sc rfl (sc rfl (sc rfl Sub.nil)))), fun _ h => h⟩
 ·
  refine w_exit <| wq <| wm rfl rfl <| wg rfl rfl <| wr_nil <| w_ret ?_
  refine ⟨_, rfl, ?_⟩
  exact congrArg (Value.int .i64) (com_stop hij.1.1 hij.2.1 hm0 hmc (by assumption))

set_option maxRecDepth 100000 in
theorem ahead18_ct {w : World} {A_a : Option Addr} {n_a c_a : Nat} {a : List Int} (h_a : Rd w A_a n_a c_a 1 (ints .i64 a)) (hp : a.Perm (iota a.length)) (hN : a.length ≤ 1000000) :
  Ct Tryz.prog 112 #[.slice A_a n_a c_a] w.heap.size w [] (fun v R' => ∃ (V : List Int) (A : Option Addr) (c : Nat), v = .tuple #[.slice A a.length c, .bool true] ∧ AhF a V ∧ R' = [⟨3, 1, A, a.length, c, ints .i64 V, false⟩]) := by
 obtain rfl := h_a.lenI
 refine fn2 Tryz.func112 rfl rfl rfl ?_
 have m_a := h_a.max
 refine wq <| wg rfl rfl <| wg rfl rfl <| wr_nil <| w_seq <| wq <| wm rfl rfl <| wr_a rfl (a_callF en65 rfl (Ct.quiet (fun w hw => isP16_ct ((h_a.c _) w hw) (by first | assumption | omega | decide) (by first | assumption | omega | decide)))) ?_
 rintro _ _ ⟨rfl, rfl⟩
 refine wr_setT 9 rfl (trivial) <| wr_y rfl (y_not rfl) <| wr_nil <| w_false rfl <| w_skip <| wq <| wm rfl rfl <| wr_y rfl (y_len underlying24 rfl) <| wr_a rfl (a_makeN underlying24 zb3 rfl rfl (by omega) (by omega) (by omega)) ?_
 rintro _ _ ⟨g_1, rfl, rfl⟩
 refine wr_rows (R1 := [⟨3, 1, (some ⟨g_1, 0, none⟩), a.length, a.length, ints .i64 (List.replicate a.length (0 : Int)), false⟩]) rfl <| wr_as (v := .slice (some ⟨g_1, 0, none⟩) a.length a.length) rfl <| wg rfl rfl <| wr_nil <| wq <| wg rfl rfl <| wr_nil <| w_seq <| wq <| wm rfl rfl <| wr_y rfl (y_len underlying24 rfl) <| wm rfl rfl <| wr_nil ?_
 refine w_block ?_
 refine w_loop3 (fun (q : Int) (l : Int) (V : List Int) => [(4, .slice (some ⟨g_1, 0, none⟩) a.length a.length), (5, .int .i64 l), (14, .slice A_a a.length c_a), (15, .int .i64 ((a.length : Nat) : Int)), (16, .int .i64 q)]) (fun (q : Int) (l : Int) (V : List Int) => [⟨3, 1, (some ⟨g_1, 0, none⟩), a.length, a.length, ints .i64 V, false⟩]) (fun (q : Int) (l : Int) (V : List Int) => (0 ≤ q) ∧ (q ≤ a.length) ∧ (AhI a V q l)) (fun (q : Int) (l : Int) (V : List Int) => (a.length - q).toNat) ?_ ?_
 ·
  exact ⟨0, -1, List.replicate a.length (0 : Int), ⟨(by omega), (by omega), (ahI_zero)⟩, (sc rfl (sc rfl (sc rfl (sc rfl (sc rfl Sub.nil))))), fun _ h => h⟩
 intro q l V ⟨hq0, hq1, hI⟩
 have hVl := hI.len
 refine wq <| wL rfl rfl rfl <| wr_nil <| w_seq <| w_if rfl (fun hc1 => ?_) (fun hc1 => ?_)
 ·
  have hin := mem_iota.1 (hp.subset (rd_mem (L := a) hq0 (by omega)))
  refine w_skip <| w_seq <| w_block <| wq <| wr_y rfl (y_index1 underlying24 sz3 rfl rfl (h_a.c _) (by omega) (by omega)) <| wr_y rfl (y_ldI underlying3 rfl rfl (h_a.c _) (by omega) (by omega)) <| wg rfl rfl <| wr_nil <| w_reg <| wm rfl rfl <| wm rfl rfl <| wm rfl rfl <| wm rfl rfl <| wr_y rfl (y_index1 underlying24 sz3 rfl rfl (rdr 0 rfl) (by omega) (by omega)) ?_
  refine wr_n (a_storeI 0 rfl sz3 rfl rfl (by omega) (by omega)) ?_
  rintro _ _ rfl
  refine wr_rows (R1 := [⟨3, 1, (some ⟨g_1, 0, none⟩), a.length, a.length, ints .i64 (upd V (rd a q) l), false⟩]) rfl <| wg rfl rfl <| wr_nil <| w_reg <| wA rfl rfl rfl (by omega) <| wm rfl rfl <| wr_nil ?_
  exact ⟨q + 1, rd a q, upd V (rd a q) l, ⟨(by omega), (by omega), (hI.step hp hq0 (by omega))⟩, (by omega), (sc rfl (sc rfl (sc rfl (sc rfl (sc rfl Sub.nil))))), fun _ h => h⟩
 ·
  refine w_exit <| wq <| wm rfl rfl <| wg rfl rfl <| wg rfl rfl <| wr_nil <| w_retR (R1 := [⟨3, 1, (some ⟨g_1, 0, none⟩), a.length, a.length, ints .i64 V, false⟩]) (fun _ h => h.sel [0] (by decide) rfl) ?_
  refine ⟨_, _, rfl, rfl, ?_⟩
  have e : q = a.length := by omega
  rw [e] at hI
  exact ⟨V, _, _, rfl, hI.done, rfl⟩

set_option maxRecDepth 100000 in
theorem falls18_ct {w : World} {A_u : Option Addr} {n_u c_u : Nat} {u : List Int} {A_a : Option Addr} {n_a c_a : Nat} {a : List Int} (h_u : Rd w A_u n_u c_u 1 (ints .u8 u)) (h_a : Rd w A_a n_a c_a 1 (ints .i64 a)) (hap : a.Perm (iota u.length)) (has : a.Pairwise (ordE u)) (hN : u.length ≤ 1000000) :
  Ct Tryz.prog 113 #[.slice A_u n_u c_u, .slice A_a n_a c_a] w.heap.size w [] (fun v R' => v = .bool true) := by
 obtain rfl := h_u.lenI
 obtain rfl := h_a.lenI
 refine fn1 Tryz.func113 rfl rfl rfl ?_
 have m_u := h_u.max
 have m_a := h_a.max
 have hal : a.length = u.length := by rw [hap.length_eq, iota_len]
 refine wq <| wg rfl rfl <| wr_nil <| wq <| wm rfl rfl <| wr_a rfl (a_callF en67 rfl (Ct.fresh (fun w hw => inverseP16_ct ((h_a.c _) w hw) (perm_self hap) (by omega)))) ?_
 rintro _ _ ⟨_, rfl, R1, A_1, c_2, rfl, hI_R1, rfl⟩
 refine wm rfl rfl <| wX rfl rfl rfl <| wX rfl rfl rfl <| wg rfl rfl <| wg rfl rfl <| wr_nil <| wq <| wm rfl rfl <| wr_a rfl (a_litI .i64 [-1] underlying24 zs3 rfl rfl rfl) ?_
 rintro _ _ ⟨g_4, rfl, rfl⟩
 refine wr_a rfl (a_appendI 1 rfl underlying24 zb3 rfl rfl rfl (rdr 0 rfl) (by omega)) ?_
 rintro _ _ ⟨A_5, c_6, rfl, rfl⟩
 refine wr_rows (R1 := [⟨3, 1, (some ⟨g_4, 0, none⟩), 1, 1, ints .i64 ([-1]), false⟩, ⟨3, 1, A_5, (a.length + 1), c_6, ints .i64 (R1 ++ ([-1])), false⟩]) rfl <| wr_as (v := .slice A_5 (a.length + 1) c_6) rfl <| wg rfl rfl <| wr_nil <| w_seq <| wq <| wm rfl rfl <| wr_y rfl (y_len underlying24 rfl) <| wm rfl rfl <| wr_nil <| w_block ?_
 refine w_loop1 (fun (i : Int) => [(0, .slice A_u u.length c_u), (1, .slice A_a a.length c_a), (5, .slice A_5 (a.length + 1) c_6), (18, .slice A_a a.length c_a), (19, .int .i64 ((a.length : Nat) : Int)), (20, .int .i64 i)]) (fun (i : Int) => [⟨3, 1, (some ⟨g_4, 0, none⟩), 1, 1, ints .i64 ([-1]), false⟩, ⟨3, 1, A_5, (a.length + 1), c_6, ints .i64 (R1 ++ ([-1])), false⟩]) (fun (i : Int) => (0 ≤ i) ∧ (i ≤ a.length ∨ i = 0)) (fun (i : Int) => (a.length + 1 - i).toNat) ?_ ?_
 ·
  exact ⟨0, ⟨(by omega), (by omega)⟩, (sc rfl (sc rfl (sc rfl (sc rfl (sc rfl (sc rfl Sub.nil)))))), fun _ h => h⟩
 intro i ⟨hi1, hi2⟩
 have hO := hI_R1.ord hap has
 have hrl := hO.len
 have hr1 : (R1 ++ [-1]).length = u.length + 1 := by rw [List.length_append, hrl]; rfl
 refine wq <| wL rfl rfl rfl <| wr_nil <| w_seq <| w_if rfl (fun hc1 => ?_) (fun hc1 => ?_)
 ·
  refine w_skip <| w_seq <| w_block <| wq <| wm rfl rfl <| wr_y rfl (y_index1 underlying24 sz3 rfl rfl (h_a.c _) (by omega) (by omega)) <| wr_y rfl (y_ldI underlying3 rfl rfl (h_a.c _) (by omega) (by omega)) <| wg rfl rfl <| wg rfl rfl <| wr_nil <| w_seq <| wq <| wm rfl rfl ?_
  refine wr_y rfl (y_eq rfl rfl) <| wr_nil <| w_if rfl (fun hc2 => ?_) (fun hc2 => ?_)
  ·
   refine w_exit <| w_reg <| wA rfl rfl rfl (by omega) <| wm rfl rfl <| wr_nil ?_
   exact ⟨i + 1, ⟨(by omega), (by omega)⟩, (by omega), (sc rfl (sc rfl (sc rfl (sc rfl (sc rfl (sc rfl Sub.nil)))))), fun _ h => h⟩
  ·
   have hx := hO.ain (r := i - 1) (by omega) (by omega)
   have hy := hO.ain (r := i) (by omega) (by omega)
   have hno := hO.nofall (r := i) (by omega) (by omega)
   rw [← bhF_app hx.1 (by omega), ← bhF_app hy.1 (by omega)] at hno
   refine w_skip <| wq <| wm rfl rfl <| wm rfl rfl <| wS rfl rfl rfl (by omega) <| wr_y rfl (y_index1 underlying24 sz3 rfl rfl (h_a.c _) (by omega) (by omega)) <| wr_y rfl (y_ldI underlying3 rfl rfl (h_a.c _) (by omega) (by omega)) <| wg rfl rfl <| wr_nil ?_
   refine w_join0 [(0, .slice A_u u.length c_u), (1, .slice A_a a.length c_a), (5, .slice A_5 (a.length + 1) c_6), (18, .slice A_a a.length c_a), (19, .int .i64 ((a.length : Nat) : Int)), (20, .int .i64 i), (64, .bool (decide (((rd u (rd a i)) < (rd u (rd a (i - 1)))) ∨ (((rd u (rd a (i - 1))) = (rd u (rd a i))) ∧ ((rd (R1 ++ ([-1])) ((rd a i) + 1)) < (rd (R1 ++ ([-1])) ((rd a (i - 1)) + 1)))))))] [⟨3, 1, (some ⟨g_4, 0, none⟩), 1, 1, ints .i64 ([-1]), false⟩, ⟨3, 1, A_5, (a.length + 1), c_6, ints .i64 (R1 ++ ([-1])), false⟩] ?_ ?_
   ·
    refine w_regd mixed <| wd_y 0 rfl (by kernel_rfl) rfl (y_move rfl) <| wd_y 1 rfl (by kernel_rfl) rfl (y_move rfl) <| wd_y 2 rfl (by kernel_rfl) rfl (y_index1 underlying23 sz5 rfl rfl (h_u.c _) (by omega) (by omega)) <| wd_y 3 rfl (by kernel_rfl) rfl (y_ldI underlying5 rfl rfl (h_u.c _) (by omega) (by omega)) <| wd_y 4 rfl (by kernel_rfl) rfl (y_move rfl) <| wd_y 5 rfl (by kernel_rfl) rfl (y_move rfl) <| wd_y 6 rfl (by kernel_rfl) rfl (y_index1 underlying23 sz5 rfl rfl (h_u.c _) (by omega) (by omega)) <| wd_y 7 rfl (by kernel_rfl) rfl (y_ldI underlying5 rfl rfl (h_u.c _) (by omega) (by omega)) <| wd_y 8 rfl (by kernel_rfl) rfl (y_gt rfl rfl) <| wd_y 9 rfl (by kernel_rfl) rfl (y_move rfl) <| wd_case 41 rfl (fun hc3 => ?_) (fun hc3 => ?_)
    ·
     refine wd_no 10 rfl (by kernel_rfl) rfl rfl rfl rfl <| wd_no 11 rfl (by kernel_rfl) rfl rfl rfl rfl <| wd_no 12 rfl (by kernel_rfl) rfl rfl rfl rfl <| wd_no 13 rfl (by kernel_rfl) rfl rfl rfl rfl <| wd_no 14 rfl (by kernel_rfl) rfl rfl rfl rfl <| wd_no 15 rfl (by kernel_rfl) rfl rfl rfl rfl <| wd_no 16 rfl (by kernel_rfl) rfl rfl rfl rfl <| wd_no 17 rfl (by kernel_rfl) rfl rfl rfl rfl <| wd_no 18 rfl (by kernel_rfl) rfl rfl rfl rfl <| wd_no 19 rfl (by kernel_rfl) rfl rfl rfl rfl <| wd_nou 20 rfl (by kernel_rfl) rfl rfl rfl <| wd_nou 21 rfl (by kernel_rfl) rfl rfl rfl <| wd_nou 22 rfl (by kernel_rfl) rfl rfl rfl <| wd_nou 23 rfl (by kernel_rfl) rfl rfl rfl <| wd_nou 24 rfl (by kernel_rfl) rfl rfl rfl ?_
     refine wd_nou 25 rfl (by kernel_rfl) rfl rfl rfl <| wd_nou 26 rfl (by kernel_rfl) rfl rfl rfl <| wd_nou 27 rfl (by kernel_rfl) rfl rfl rfl <| wd_nou 28 rfl (by kernel_rfl) rfl rfl rfl <| wd_nou 29 rfl (by kernel_rfl) rfl rfl rfl <| wd_nou 30 rfl (by kernel_rfl) rfl rfl rfl <| wd_no 31 rfl (by kernel_rfl) rfl rfl rfl rfl <| wd_y 32 rfl (by kernel_rfl) rfl (y_pickT rfl rfl) <| wd_nil (by kernel_rfl) ?_
     exact ⟨(sc rfl (sc rfl (sc rfl (sc rfl (sc rfl (sc rfl (Sub.to rfl (mb_t (by first | omega | exact ⟨fun h => ⟨(by assumption), h⟩, fun h => h.2⟩ | exact .inl (by assumption) | exact ⟨.inr, fun h => h.resolve_left (by assumption)⟩ | exact ⟨fun h => h.resolve_left (by assumption), .inr⟩ | simp [*])) Sub.nil))))))), fun _ h => h⟩
    ·
     refine wd_yg 10 rfl (by kernel_rfl) rfl rfl rfl (y_move rfl) <| wd_yg 11 rfl (by kernel_rfl) rfl rfl rfl (y_move rfl) <| wd_yg 12 rfl (by kernel_rfl) rfl rfl rfl (y_index1 underlying23 sz5 rfl rfl (h_u.c _) (by omega) (by omega)) <| wd_yg 13 rfl (by kernel_rfl) rfl rfl rfl (y_ldI underlying5 rfl rfl (h_u.c _) (by omega) (by omega)) <| wd_yg 14 rfl (by kernel_rfl) rfl rfl rfl (y_move rfl) <| wd_yg 15 rfl (by kernel_rfl) rfl rfl rfl (y_move rfl) <| wd_yg 16 rfl (by kernel_rfl) rfl rfl rfl (y_index1 underlying23 sz5 rfl rfl (h_u.c _) (by omega) (by omega)) <| wd_yg 17 rfl (by kernel_rfl) rfl rfl rfl (y_ldI underlying5 rfl rfl (h_u.c _) (by omega) (by omega)) <| wd_yg 18 rfl (by kernel_rfl) rfl rfl rfl (y_eq rfl rfl) <| wd_yg 19 rfl (by kernel_rfl) rfl rfl rfl (y_move rfl) <| wd_case 51 rfl (fun hc4 => ?_) (fun hc4 => ?_)
     ·
      refine wd_yg 20 rfl (by kernel_rfl) rfl rfl rfl (y_move rfl) <| wd_yg 21 rfl (by kernel_rfl) rfl rfl rfl (y_move rfl) <| wd_yg 22 rfl (by kernel_rfl) rfl rfl rfl (y_addI rfl rfl (by omega)) <| wd_yg 23 rfl (by kernel_rfl) rfl rfl rfl (y_index1 underlying24 sz3 rfl rfl (rdr 1 rfl) (by omega) (by omega)) <| wd_yg 24 rfl (by kernel_rfl) rfl rfl rfl (y_ldI underlying3 rfl rfl (rdr 1 rfl) (by omega) (by omega)) <| wd_yg 25 rfl (by kernel_rfl) rfl rfl rfl (y_move rfl) <| wd_yg 26 rfl (by kernel_rfl) rfl rfl rfl (y_move rfl) <| wd_yg 27 rfl (by kernel_rfl) rfl rfl rfl (y_addI rfl rfl (by omega)) <| wd_yg 28 rfl (by kernel_rfl) rfl rfl rfl (y_index1 underlying24 sz3 rfl rfl (rdr 1 rfl) (by omega) (by omega)) <| wd_yg 29 rfl (by kernel_rfl) rfl rfl rfl (y_ldI underlying3 rfl rfl (rdr 1 rfl) (by omega) (by omega)) <| wd_yg 30 rfl (by kernel_rfl) rfl rfl rfl (y_gt rfl rfl) <| wd_yg 31 rfl (by kernel_rfl) rfl rfl rfl (y_pickT rfl rfl) <| wd_y 32 rfl (by kernel_rfl) rfl (y_pickF rfl rfl) <| wd_nil (by kernel_rfl) ?_
      exact ⟨(sc rfl (sc rfl (sc rfl (sc rfl (sc rfl (sc rfl (Sub.to rfl (mb (by first | omega | exact ⟨fun h => ⟨(by assumption), h⟩, fun h => h.2⟩ | exact .inl (by assumption) | exact ⟨.inr, fun h => h.resolve_left (by assumption)⟩ | exact ⟨fun h => h.resolve_left (by assumption), .inr⟩ | simp [*])) Sub.nil))))))), fun _ h => h⟩
     ·
      refine wd_no 20 rfl (by kernel_rfl) rfl rfl rfl rfl <| wd_no 21 rfl (by kernel_rfl) rfl rfl rfl rfl <| wd_no 22 rfl (by kernel_rfl) rfl rfl rfl rfl <| wd_no 23 rfl (by kernel_rfl) rfl rfl rfl rfl <| wd_no 24 rfl (by kernel_rfl) rfl rfl rfl rfl <| wd_no 25 rfl (by kernel_rfl) rfl rfl rfl rfl <| wd_no 26 rfl (by kernel_rfl) rfl rfl rfl rfl <| wd_no 27 rfl (by kernel_rfl) rfl rfl rfl rfl <| wd_no 28 rfl (by kernel_rfl) rfl rfl rfl rfl <| wd_no 29 rfl (by kernel_rfl) rfl rfl rfl rfl <| wd_no 30 rfl (by kernel_rfl) rfl rfl rfl rfl <| wd_yg 31 rfl (by kernel_rfl) rfl rfl rfl (y_pickF rfl rfl) <| wd_y 32 rfl (by kernel_rfl) rfl (y_pickF rfl rfl) <| wd_nil (by kernel_rfl) ?_
      exact ⟨(sc rfl (sc rfl (sc rfl (sc rfl (sc rfl (sc rfl (Sub.to rfl (mb_f (by first | omega | exact ⟨fun h => ⟨(by assumption), h⟩, fun h => h.2⟩ | exact .inl (by assumption) | exact ⟨.inr, fun h => h.resolve_left (by assumption)⟩ | exact ⟨fun h => h.resolve_left (by assumption), .inr⟩ | simp [*])) Sub.nil))))))), fun _ h => h⟩
   refine w_if rfl (fun hc5 => ?_) (fun hc5 => ?_)
   ·
    refine wq <| wg rfl rfl <| wr_nil <| w_retR (R1 := []) (fun _ h => h.sel [] (by decide) rfl) ?_
    refine ⟨_, rfl, ?_⟩
    exact absurd (by assumption) hno
   ·
    refine w_skip <| w_reg <| wA rfl rfl rfl (by omega) <| wm rfl rfl <| wr_nil ?_
    exact ⟨i + 1, ⟨(by omega), (by omega)⟩, (by omega), (sc rfl (sc rfl (sc rfl (sc rfl (sc rfl (sc rfl Sub.nil)))))), fun _ h => h⟩
 ·
  refine w_exit <| wq <| wg rfl rfl <| wr_nil <| w_retR (R1 := []) (fun _ h => h.sel [] (by decide) rfl) ?_
  refine ⟨_, rfl, ?_⟩
  rfl

set_option maxRecDepth 100000 in
theorem plcp18_ct {w : World} {A_u : Option Addr} {n_u c_u : Nat} {u : List Int} {A_a : Option Addr} {n_a c_a : Nat} {a : List Int} {rk : List Int} (h_u : Rd w A_u n_u c_u 1 (ints .u8 u)) (h_a : Rd w A_a n_a c_a 1 (ints .i64 a)) (hap : a.Perm (iota u.length)) (has : a.Pairwise (ordE u)) (hN : u.length ≤ 1000000) (hO : OrdR u a rk) :
  Ct Tryz.prog 83 #[.slice A_u n_u c_u, .slice A_a n_a c_a] w.heap.size w [] (fun v R' => ∃ (V rk : List Int) (A : Option Addr) (c : Nat), v = .tuple #[.slice A a.length c, .bool true] ∧ (OrdR u a rk ∧ V = plcpV u a rk) ∧ R' = [⟨3, 1, A, a.length, c, ints .i64 V, false⟩]) := by
 obtain rfl := h_u.lenI
 obtain rfl := h_a.lenI
 refine fn2 Tryz.func83 rfl rfl rfl ?_
 have m_u := h_u.max
 have m_a := h_a.max
 have hal : a.length = u.length := by rw [hap.length_eq, iota_len]
 refine wq <| wg rfl rfl <| wg rfl rfl <| wr_nil <| wq <| wm rfl rfl <| wr_a rfl (a_callF en112 rfl (Ct.fresh (fun w hw => ahead18_ct ((h_a.c _) w hw) (perm_self hap) (by omega)))) ?_
 rintro _ _ ⟨_, rfl, H1, A_1, c_2, rfl, hI_H1, rfl⟩
 refine wm rfl rfl <| wX rfl rfl rfl <| wX rfl rfl rfl <| wg rfl rfl <| wg rfl rfl <| wr_nil <| w_seq <| wq <| wm rfl rfl <| wr_y rfl (y_not rfl) <| wm rfl rfl <| wr_yes rfl rfl <| wm rfl rfl <| wr_yes rfl rfl ?_
 refine wr_y rfl (y_len underlying24 rfl) <| wr_yes rfl rfl <| wm rfl rfl <| wr_yes rfl rfl <| wr_y rfl (y_len underlying23 rfl) <| wr_yes rfl rfl <| wr_y rfl (Yl.f (y_ne rfl rfl) (by omega)) <| wr_y rfl (y_pickF rfl rfl) <| wr_nil <| w_false rfl <| w_skip <| wq <| wm rfl rfl <| wm rfl rfl ?_
 refine wr_a rfl (a_callF en113 rfl (Ct.quiet (fun w hw => falls18_ct ((h_u.c _) w hw) ((h_a.c _) w hw) hap has hN))) ?_
 rintro _ _ ⟨rfl, rfl⟩
 refine wr_setT 29 rfl (trivial) <| wg rfl rfl <| wr_nil <| wq <| wm rfl rfl <| wr_y rfl (y_len underlying24 rfl) <| wr_a rfl (a_makeN underlying24 zb3 rfl rfl (by omega) (by omega) (by omega)) ?_
 rintro _ _ ⟨g_4, rfl, rfl⟩
 refine wr_rows (R1 := [⟨3, 1, (some ⟨g_4, 0, none⟩), a.length, a.length, ints .i64 (List.replicate a.length (0 : Int)), false⟩, ⟨3, 1, A_1, a.length, c_2, ints .i64 H1, false⟩]) rfl <| wr_as (v := .slice (some ⟨g_4, 0, none⟩) a.length a.length) rfl <| wg rfl rfl <| wr_nil <| wq <| wg rfl rfl <| wr_nil <| w_seq <| wq <| wm rfl rfl <| wr_y rfl (y_len underlying24 rfl) <| wm rfl rfl <| wr_nil ?_
 refine w_block ?_
 refine w_loop3 (fun (i : Int) (n : Int) (V : List Int) => [(0, .slice A_u u.length c_u), (8, .bool true), (9, .slice (some ⟨g_4, 0, none⟩) a.length a.length), (10, .int .i64 n), (33, .slice A_1 a.length c_2), (34, .int .i64 ((a.length : Nat) : Int)), (35, .int .i64 i)]) (fun (i : Int) (n : Int) (V : List Int) => [⟨3, 1, (some ⟨g_4, 0, none⟩), a.length, a.length, ints .i64 V, false⟩, ⟨3, 1, A_1, a.length, c_2, ints .i64 H1, false⟩]) (fun (i : Int) (n : Int) (V : List Int) => (0 ≤ i) ∧ (i ≤ u.length) ∧ (n ≤ u.length) ∧ (PlI u a rk V i n)) (fun (i : Int) (n : Int) (V : List Int) => (u.length - i).toNat) ?_ ?_
 ·
  exact ⟨0, 0, List.replicate a.length (0 : Int), ⟨(by omega), (by omega), (by omega), (by rw [hal]; exact plI_zero)⟩, (sc rfl (sc rfl (sc rfl (sc rfl (sc rfl (sc rfl (sc rfl Sub.nil))))))), fun _ h => h⟩
 intro i n V ⟨hi0, hi1, hn1, hK⟩
 have hVl := hK.len
 have hKn := hK.n0
 refine wq <| wL rfl rfl rfl <| wr_nil <| w_seq <| w_if rfl (fun hc1 => ?_) (fun hc1 => ?_)
 ·
  have hat := hI_H1.at_ hO hi0 (show i < u.length by omega)
  have hri := hO.at_ hi0 (show i < u.length by omega)
  refine w_skip <| w_seq <| w_block <| wq <| wm rfl rfl <| wr_y rfl (y_index1 underlying24 sz3 rfl rfl (rdr 1 rfl) (by omega) (by omega)) <| wr_y rfl (y_ldI underlying3 rfl rfl (rdr 1 rfl) (by omega) (by omega)) <| wg rfl rfl <| wg rfl rfl <| wr_nil <| wq <| wm rfl rfl <| wS rfl rfl rfl (by omega) ?_
  refine wr_y rfl (y_max rfl rfl) <| wg rfl rfl <| wr_nil <| w_seq <| w_block <| wq <| wm rfl rfl <| wr_y rfl (y_eq rfl rfl) <| wg rfl rfl <| wr_nil <| w_if rfl (fun hc2 => ?_) (fun hc2 => ?_)
  ·
   have hz : rd rk i = 0 := by
    rcases Int.lt_or_le 0 (rd rk i) with g | g
    ·rw [if_neg (by omega)] at hat
     have := hO.ain (r := rd rk i - 1) (by omega) (by omega)
     omega
    ·omega
   refine w_reg <| wg rfl rfl <| wr_nil <| w_reg <| wm rfl rfl <| wm rfl rfl <| wm rfl rfl <| wr_y rfl (y_index1 underlying24 sz3 rfl rfl (rdr 0 rfl) (by omega) (by omega)) <| wr_n (a_storeI 0 rfl sz3 rfl rfl (by omega) (by omega)) ?_
   rintro _ _ rfl
   refine wr_rows (R1 := [⟨3, 1, (some ⟨g_4, 0, none⟩), a.length, a.length, ints .i64 (upd V i 0), false⟩, ⟨3, 1, A_1, a.length, c_2, ints .i64 H1, false⟩]) rfl <| wr_nil <| w_reg <| wA rfl rfl rfl (by omega) <| wm rfl rfl <| wr_nil ?_
   exact ⟨i + 1, 0, upd V i 0, ⟨(by omega), (by omega), (by omega), (hK.zero hi0 (by omega) hz)⟩, (by omega), (sc rfl (sc rfl (sc rfl (sc rfl (sc rfl (sc rfl (sc rfl Sub.nil))))))), fun _ h => h⟩
  ·
   have hnz : rd rk i ≠ 0 := fun g => by rw [if_pos g] at hat; exact hc2 hat
   rw [if_neg hnz] at hat
   have hmo := hK.more hO hi0 (show i < u.length by omega) hnz hat
   have hjn := hO.ain (r := rd rk i - 1) (by omega) (by omega)
   rw [← hat] at hjn
   have hcb := com_bd (s := u) (i := i) (j := rd H1 i) hi0 (by omega) hjn.1 (by omega)
   have hcb2 := com_bd (s := u) (i := i + max (n - 1) 0) (j := rd H1 i + max (n - 1) 0) (by omega) (by omega) (by omega) (by omega)
   refine wq <| wm rfl rfl <| wg rfl rfl <| wr_nil <| w_true rfl <| w_reg <| wm rfl rfl <| wm rfl rfl <| wm rfl rfl <| wm rfl rfl <| wA rfl rfl rfl (by omega) <| wm rfl rfl <| wm rfl rfl <| wA rfl rfl rfl (by omega) ?_
   refine wr_a rfl (a_callF en82 rfl (Ct.quiet (fun w hw => common4_ct ((h_u.c _) w hw) (by omega) hN))) ?_
   rintro _ _ ⟨rfl, rfl⟩
   refine wA rfl rfl rfl (by omega) <| wg rfl rfl <| wr_nil <| w_reg <| wm rfl rfl <| wm rfl rfl <| wm rfl rfl <| wr_y rfl (y_index1 underlying24 sz3 rfl rfl (rdr 0 rfl) (by omega) (by omega)) <| wr_n (a_storeI 0 rfl sz3 rfl rfl (by omega) (by omega)) ?_
   rintro _ _ rfl
   refine wr_rows (R1 := [⟨3, 1, (some ⟨g_4, 0, none⟩), a.length, a.length, ints .i64 (upd V i ((max (n - 1) 0) + (com u (i + (max (n - 1) 0)) ((rd H1 i) + (max (n - 1) 0)) : Int))), false⟩, ⟨3, 1, A_1, a.length, c_2, ints .i64 H1, false⟩]) rfl <| wr_nil <| w_reg <| wA rfl rfl rfl (by omega) <| wm rfl rfl <| wr_nil ?_
   exact ⟨i + 1, (max (n - 1) 0) + (com u (i + (max (n - 1) 0)) ((rd H1 i) + (max (n - 1) 0)) : Int), upd V i ((max (n - 1) 0) + (com u (i + (max (n - 1) 0)) ((rd H1 i) + (max (n - 1) 0)) : Int)), ⟨(by omega), (by omega), (by omega), (hmo.2)⟩, (by omega), (sc rfl (sc rfl (sc rfl (sc rfl (sc rfl (sc rfl (sc rfl Sub.nil))))))), fun _ h => h⟩
 ·
  refine w_exit <| wq <| wm rfl rfl <| wg rfl rfl <| wg rfl rfl <| wr_nil <| w_retR (R1 := [⟨3, 1, (some ⟨g_4, 0, none⟩), a.length, a.length, ints .i64 V, false⟩]) (fun _ h => h.sel [0] (by decide) rfl) ?_
  refine ⟨_, _, rfl, rfl, ?_⟩
  have e : i = u.length := by omega
  rw [e] at hK
  exact ⟨V, rk, _, _, rfl, ⟨hO, hK.done⟩, rfl⟩

theorem ordR_exists {u a : List Int} (hap : a.Perm (iota u.length)) (has : a.Pairwise (ordE u)) : ∃ rk, OrdR u a rk := by
 have hl : a.length = u.length := by rw [hap.length_eq, iota_len]
 have hnd : a.Nodup := hap.symm.nodup (iota_nodup _)
 have hin : ∀ r : Int, 0 ≤ r → r < u.length → 0 ≤ rd a r ∧ rd a r < u.length := fun r h0 h1 => mem_iota.1 (hap.subset (rd_mem h0 (by omega)))
 refine ⟨(List.range u.length).map fun i : Nat => (((List.range u.length).findIdx fun r : Nat => decide (rd a r = i) : Nat) : Int), hap, has, by simp, fun r r0 hr => ?_⟩
 have hi := hin r r0 hr
 rw [rd_range hi.1 (by omega)]
 have e : (List.range u.length).findIdx (fun q : Nat => decide (rd a q = ((rd a r).toNat : Int))) = r.toNat := by
  have hlt : r.toNat < (List.range u.length).length := by rw [List.length_range]; omega
  refine (List.findIdx_eq hlt).2 ⟨?_, fun q hq => ?_⟩
  ·simp only [List.getElem_range, decide_eq_true_eq]
   rw [show ((r.toNat : Nat) : Int) = r by omega]
   omega
  ·simp only [List.getElem_range, decide_eq_false_iff_not]
   intro g
   have := rd_inj hnd (i := (q : Int)) (j := r) (by omega) (by omega) r0 (by omega) (by omega)
   omega
 rw [e]
 omega
set_option maxRecDepth 100000 in
theorem lcp18_ct {w : World} {A_u : Option Addr} {n_u c_u : Nat} {u : List Int} {A_a : Option Addr} {n_a c_a : Nat} {a : List Int} (h_u : Rd w A_u n_u c_u 1 (ints .u8 u)) (h_a : Rd w A_a n_a c_a 1 (ints .i64 a)) (hap : a.Perm (iota u.length)) (has : a.Pairwise (ordE u)) (hN : u.length ≤ 1000000) :
  Ct Tryz.prog 50 #[.slice A_u n_u c_u, .slice A_a n_a c_a] w.heap.size w [] (fun v R' => ∃ A c, v = .tuple #[.slice A a.length c, .bool true] ∧ R' = [⟨3, 1, A, a.length, c, ints .i64 (lcpV u a), false⟩]) := by
 obtain rfl := h_u.lenI
 obtain rfl := h_a.lenI
 refine fn2 Tryz.func50 rfl rfl rfl ?_
 have m_u := h_u.max
 have m_a := h_a.max
 have hal : a.length = u.length := by rw [hap.length_eq, iota_len]
 obtain ⟨rk, hO⟩ := ordR_exists hap has
 refine wq <| wg rfl rfl <| wg rfl rfl <| wr_nil <| wq <| wm rfl rfl <| wm rfl rfl <| wr_a rfl (a_callF en83 rfl (Ct.fresh (fun w hw => plcp18_ct ((h_u.c _) w hw) ((h_a.c _) w hw) hap has hN hO))) ?_
 rintro _ _ ⟨_, rfl, P1, rk1, A_1, c_2, rfl, ⟨hOk, hP1⟩, rfl⟩
 refine wm rfl rfl <| wX rfl rfl rfl <| wX rfl rfl rfl <| wg rfl rfl <| wg rfl rfl <| wr_nil <| w_seq <| wq <| wm rfl rfl <| wr_y rfl (y_not rfl) <| wr_nil <| w_false rfl <| w_skip <| w_seq ?_
 refine w_reg <| wm rfl rfl <| wr_y rfl (y_len underlying24 rfl) <| wr_a rfl (a_makeN underlying24 zb3 rfl rfl (by omega) (by omega) (by omega)) ?_
 rintro _ _ ⟨g_4, rfl, rfl⟩
 refine wr_rows (R1 := [⟨3, 1, (some ⟨g_4, 0, none⟩), a.length, a.length, ints .i64 (List.replicate a.length (0 : Int)), false⟩, ⟨3, 1, A_1, a.length, c_2, ints .i64 P1, false⟩]) rfl <| wr_as (v := .slice (some ⟨g_4, 0, none⟩) a.length a.length) rfl <| wg rfl rfl <| wr_nil <| w_seq <| wq <| wm rfl rfl <| wr_y rfl (y_len underlying24 rfl) <| wm rfl rfl <| wr_nil <| w_block ?_
 refine w_loop2 (fun (i : Int) (V : List Int) => [(6, .slice A_1 a.length c_2), (8, .slice (some ⟨g_4, 0, none⟩) a.length a.length), (22, .slice A_a a.length c_a), (23, .int .i64 ((a.length : Nat) : Int)), (24, .int .i64 i)]) (fun (i : Int) (V : List Int) => [⟨3, 1, (some ⟨g_4, 0, none⟩), a.length, a.length, ints .i64 V, false⟩, ⟨3, 1, A_1, a.length, c_2, ints .i64 P1, false⟩]) (fun (i : Int) (V : List Int) => (0 ≤ i) ∧ (i ≤ a.length) ∧ (V.length = a.length) ∧ (∀ j : Int, 0 ≤ j → j < i → rd V j = rd P1 (rd a j))) (fun (i : Int) (V : List Int) => (a.length - i).toNat) ?_ ?_
 ·
  exact ⟨0, List.replicate a.length (0 : Int), ⟨(by omega), (by omega), (by rw [List.length_replicate]), (fun j h1 h2 => by omega)⟩, (sc rfl (sc rfl (sc rfl (sc rfl (sc rfl Sub.nil))))), fun _ h => h⟩
 intro i V ⟨hi0, hi1, hVl, hV⟩
 refine wq <| wL rfl rfl rfl <| wr_nil <| w_seq <| w_if rfl (fun hc1 => ?_) (fun hc1 => ?_)
 ·
  have hin := hO.ain hi0 (show i < u.length by omega)
  have hPl : P1.length = u.length := by rw [hP1, plcpV_len]
  refine w_skip <| w_seq <| w_block <| wq <| wm rfl rfl <| wr_y rfl (y_index1 underlying24 sz3 rfl rfl (h_a.c _) (by omega) (by omega)) <| wr_y rfl (y_ldI underlying3 rfl rfl (h_a.c _) (by omega) (by omega)) <| wg rfl rfl <| wg rfl rfl <| wr_nil <| w_reg <| wm rfl rfl <| wm rfl rfl <| wm rfl rfl ?_
  refine wm rfl rfl <| wr_y rfl (y_index1 underlying24 sz3 rfl rfl (rdr 1 rfl) (by omega) (by omega)) <| wr_y rfl (y_ldI underlying3 rfl rfl (rdr 1 rfl) (by omega) (by omega)) <| wr_y rfl (y_index1 underlying24 sz3 rfl rfl (rdr 0 rfl) (by omega) (by omega)) <| wr_n (a_storeI 0 rfl sz3 rfl rfl (by omega) (by omega)) ?_
  rintro _ _ rfl
  refine wr_rows (R1 := [⟨3, 1, (some ⟨g_4, 0, none⟩), a.length, a.length, ints .i64 (upd V i (rd P1 (rd a i))), false⟩, ⟨3, 1, A_1, a.length, c_2, ints .i64 P1, false⟩]) rfl <| wr_nil <| w_reg <| wA rfl rfl rfl (by omega) <| wm rfl rfl <| wr_nil ?_
  exact ⟨i + 1, upd V i (rd P1 (rd a i)), ⟨(by omega), (by omega), (by rw [upd_length]; exact hVl), (fill_step (f := fun j => rd P1 (rd a j)) hi0 (by omega) hV rfl)⟩, (by omega), (sc rfl (sc rfl (sc rfl (sc rfl (sc rfl Sub.nil))))), fun _ h => h⟩
 ·
  refine w_exit <| wq <| wm rfl rfl <| wg rfl rfl <| wg rfl rfl <| wr_nil <| w_retR (R1 := [⟨3, 1, (some ⟨g_4, 0, none⟩), a.length, a.length, ints .i64 V, false⟩]) (fun _ h => h.sel [0] (by decide) rfl) ?_
  refine ⟨_, _, rfl, rfl, ?_⟩
  obtain rfl : V = lcpV u a := lcp_of hOk hVl (fun p h1 h2 => by rw [hV p h1 (by omega), hP1])
  exact ⟨_, _, rfl, rfl⟩

set_option maxRecDepth 100000 in
theorem sa19_ct {w : World} {A_u : Option Addr} {n_u c_u : Nat} {u : List Int} {A_a : Option Addr} {n_a c_a : Nat} {a : List Int} (h_u : Rd w A_u n_u c_u 1 (ints .u8 u)) (h_a : Rd w A_a n_a c_a 1 (ints .i64 a)) (hap : a.Perm (iota u.length)) (has : a.Pairwise (ordE u)) (hN : u.length ≤ 1000000) :
  Ct Tryz.prog 84 #[.slice A_u n_u c_u, .slice A_a n_a c_a] w.heap.size w [] (fun v R' => v = .bool true) := by
 obtain rfl := h_u.lenI
 obtain rfl := h_a.lenI
 refine fn1 Tryz.func84 rfl rfl rfl ?_
 have m_u := h_u.max
 have m_a := h_a.max
 have hal : a.length = u.length := by rw [hap.length_eq, iota_len]
 refine wq <| wg rfl rfl <| wr_nil <| wq <| wm rfl rfl <| wr_a rfl (a_callF en67 rfl (Ct.fresh (fun w hw => inverseP16_ct ((h_a.c _) w hw) (perm_self hap) (by omega)))) ?_
 rintro _ _ ⟨_, rfl, R1, A_1, c_2, rfl, hI_R1, rfl⟩
 refine wm rfl rfl <| wX rfl rfl rfl <| wX rfl rfl rfl <| wg rfl rfl <| wg rfl rfl <| wr_nil <| w_seq <| wq <| wm rfl rfl <| wr_y rfl (y_not rfl) <| wm rfl rfl <| wr_yes rfl rfl <| wm rfl rfl <| wr_yes rfl rfl ?_
 refine wr_y rfl (y_len underlying24 rfl) <| wr_yes rfl rfl <| wm rfl rfl <| wr_yes rfl rfl <| wr_y rfl (y_len underlying23 rfl) <| wr_yes rfl rfl <| wr_y rfl (Yl.f (y_ne rfl rfl) (by omega)) <| wr_y rfl (y_pickF rfl rfl) <| wr_nil <| w_false rfl <| w_skip <| wq <| wm rfl rfl <| wr_a rfl (a_litI .i64 [-1] underlying24 zs3 rfl rfl rfl) ?_
 rintro _ _ ⟨g_4, rfl, rfl⟩
 refine wr_a rfl (a_appendI 1 rfl underlying24 zb3 rfl rfl rfl (rdr 0 rfl) (by omega)) ?_
 rintro _ _ ⟨A_5, c_6, rfl, rfl⟩
 refine wr_rows (R1 := [⟨3, 1, (some ⟨g_4, 0, none⟩), 1, 1, ints .i64 ([-1]), false⟩, ⟨3, 1, A_5, (a.length + 1), c_6, ints .i64 (R1 ++ ([-1])), false⟩]) rfl <| wr_as (v := .slice A_5 (a.length + 1) c_6) rfl <| wg rfl rfl <| wr_nil <| w_seq <| wq <| wg rfl rfl <| wr_nil <| w_block ?_
 refine w_loop1 (fun (i : Int) => [(0, .slice A_u u.length c_u), (1, .slice A_a a.length c_a), (5, .slice A_5 (a.length + 1) c_6), (7, .int .i64 i)]) (fun (i : Int) => [⟨3, 1, (some ⟨g_4, 0, none⟩), 1, 1, ints .i64 ([-1]), false⟩, ⟨3, 1, A_5, (a.length + 1), c_6, ints .i64 (R1 ++ ([-1])), false⟩]) (fun (i : Int) => (1 ≤ i) ∧ (i ≤ a.length ∨ i = 1)) (fun (i : Int) => (a.length + 1 - i).toNat) ?_ ?_
 ·
  exact ⟨1, ⟨(by omega), (by omega)⟩, (sc rfl (sc rfl (sc rfl (sc rfl Sub.nil)))), fun _ h => h⟩
 intro i ⟨hi1, hi2⟩
 have hO := hI_R1.ord hap has
 have hrl := hO.len
 have hr1 : (R1 ++ [-1]).length = u.length + 1 := by rw [List.length_append, hrl]; rfl
 refine w_seq <| wq <| wm rfl rfl <| wm rfl rfl <| wr_y rfl (y_len underlying24 rfl) <| wL rfl rfl rfl <| wr_nil <| w_if rfl (fun hc1 => ?_) (fun hc1 => ?_)
 ·
  have hx := hO.ain (r := i - 1) (by omega) (by omega)
  have hy := hO.ain (r := i) (by omega) (by omega)
  have hno := hO.nofall (r := i) (by omega) (by omega)
  rw [← bhF_app hx.1 (by omega), ← bhF_app hy.1 (by omega)] at hno
  refine w_skip <| w_seq <| w_block <| w_seq <| w_regd mixed <| wd_y 0 rfl (by kernel_rfl) rfl (y_move rfl) <| wd_y 1 rfl (by kernel_rfl) rfl (y_move rfl) <| wd_y 2 rfl (by kernel_rfl) rfl (y_subI rfl rfl (by omega)) <| wd_y 3 rfl (by kernel_rfl) rfl (y_index1 underlying24 sz3 rfl rfl (h_a.c _) (by omega) (by omega)) <| wd_y 4 rfl (by kernel_rfl) rfl (y_ldI underlying3 rfl rfl (h_a.c _) (by omega) (by omega)) <| wd_y 5 rfl (by kernel_rfl) rfl (y_move rfl) <| wd_y 6 rfl (by kernel_rfl) rfl (y_move rfl) <| wd_y 7 rfl (by kernel_rfl) rfl (y_index1 underlying24 sz3 rfl rfl (h_a.c _) (by omega) (by omega)) <| wd_y 8 rfl (by kernel_rfl) rfl (y_ldI underlying3 rfl rfl (h_a.c _) (by omega) (by omega)) <| wd_y 9 rfl (by kernel_rfl) rfl (y_assign rfl) ?_
  refine wd_y 10 rfl (by kernel_rfl) rfl (y_assign rfl) <| wd_nil (by kernel_rfl) ?_
  refine w_join0 [(0, .slice A_u u.length c_u), (1, .slice A_a a.length c_a), (5, .slice A_5 (a.length + 1) c_6), (7, .int .i64 i), (74, .bool (decide (((rd u (rd a i)) < (rd u (rd a (i - 1)))) ∨ (((rd u (rd a (i - 1))) = (rd u (rd a i))) ∧ ((rd (R1 ++ ([-1])) ((rd a i) + 1)) < (rd (R1 ++ ([-1])) ((rd a (i - 1)) + 1)))))))] [⟨3, 1, (some ⟨g_4, 0, none⟩), 1, 1, ints .i64 ([-1]), false⟩, ⟨3, 1, A_5, (a.length + 1), c_6, ints .i64 (R1 ++ ([-1])), false⟩] ?_ ?_
  ·
   refine w_regd mixed <| wd_y 0 rfl (by kernel_rfl) rfl (y_move rfl) <| wd_y 1 rfl (by kernel_rfl) rfl (y_move rfl) <| wd_y 2 rfl (by kernel_rfl) rfl (y_index1 underlying23 sz5 rfl rfl (h_u.c _) (by omega) (by omega)) <| wd_y 3 rfl (by kernel_rfl) rfl (y_ldI underlying5 rfl rfl (h_u.c _) (by omega) (by omega)) <| wd_y 4 rfl (by kernel_rfl) rfl (y_move rfl) <| wd_y 5 rfl (by kernel_rfl) rfl (y_move rfl) <| wd_y 6 rfl (by kernel_rfl) rfl (y_index1 underlying23 sz5 rfl rfl (h_u.c _) (by omega) (by omega)) <| wd_y 7 rfl (by kernel_rfl) rfl (y_ldI underlying5 rfl rfl (h_u.c _) (by omega) (by omega)) <| wd_y 8 rfl (by kernel_rfl) rfl (y_gt rfl rfl) <| wd_y 9 rfl (by kernel_rfl) rfl (y_move rfl) <| wd_case 51 rfl (fun hc2 => ?_) (fun hc2 => ?_)
   ·
    refine wd_no 10 rfl (by kernel_rfl) rfl rfl rfl rfl <| wd_no 11 rfl (by kernel_rfl) rfl rfl rfl rfl <| wd_no 12 rfl (by kernel_rfl) rfl rfl rfl rfl <| wd_no 13 rfl (by kernel_rfl) rfl rfl rfl rfl <| wd_no 14 rfl (by kernel_rfl) rfl rfl rfl rfl <| wd_no 15 rfl (by kernel_rfl) rfl rfl rfl rfl <| wd_no 16 rfl (by kernel_rfl) rfl rfl rfl rfl <| wd_no 17 rfl (by kernel_rfl) rfl rfl rfl rfl <| wd_no 18 rfl (by kernel_rfl) rfl rfl rfl rfl <| wd_no 19 rfl (by kernel_rfl) rfl rfl rfl rfl <| wd_nou 20 rfl (by kernel_rfl) rfl rfl rfl <| wd_nou 21 rfl (by kernel_rfl) rfl rfl rfl <| wd_nou 22 rfl (by kernel_rfl) rfl rfl rfl <| wd_nou 23 rfl (by kernel_rfl) rfl rfl rfl <| wd_nou 24 rfl (by kernel_rfl) rfl rfl rfl ?_
    refine wd_nou 25 rfl (by kernel_rfl) rfl rfl rfl <| wd_nou 26 rfl (by kernel_rfl) rfl rfl rfl <| wd_nou 27 rfl (by kernel_rfl) rfl rfl rfl <| wd_nou 28 rfl (by kernel_rfl) rfl rfl rfl <| wd_nou 29 rfl (by kernel_rfl) rfl rfl rfl <| wd_nou 30 rfl (by kernel_rfl) rfl rfl rfl <| wd_no 31 rfl (by kernel_rfl) rfl rfl rfl rfl <| wd_y 32 rfl (by kernel_rfl) rfl (y_pickT rfl rfl) <| wd_nil (by kernel_rfl) ?_
    exact ⟨(sc rfl (sc rfl (sc rfl (sc rfl (Sub.to rfl (mb_t (by first | omega | exact ⟨fun h => ⟨(by assumption), h⟩, fun h => h.2⟩ | exact .inl (by assumption) | exact ⟨.inr, fun h => h.resolve_left (by assumption)⟩ | exact ⟨fun h => h.resolve_left (by assumption), .inr⟩ | simp [*])) Sub.nil))))), fun _ h => h⟩
   ·
    refine wd_yg 10 rfl (by kernel_rfl) rfl rfl rfl (y_move rfl) <| wd_yg 11 rfl (by kernel_rfl) rfl rfl rfl (y_move rfl) <| wd_yg 12 rfl (by kernel_rfl) rfl rfl rfl (y_index1 underlying23 sz5 rfl rfl (h_u.c _) (by omega) (by omega)) <| wd_yg 13 rfl (by kernel_rfl) rfl rfl rfl (y_ldI underlying5 rfl rfl (h_u.c _) (by omega) (by omega)) <| wd_yg 14 rfl (by kernel_rfl) rfl rfl rfl (y_move rfl) <| wd_yg 15 rfl (by kernel_rfl) rfl rfl rfl (y_move rfl) <| wd_yg 16 rfl (by kernel_rfl) rfl rfl rfl (y_index1 underlying23 sz5 rfl rfl (h_u.c _) (by omega) (by omega)) <| wd_yg 17 rfl (by kernel_rfl) rfl rfl rfl (y_ldI underlying5 rfl rfl (h_u.c _) (by omega) (by omega)) <| wd_yg 18 rfl (by kernel_rfl) rfl rfl rfl (y_eq rfl rfl) <| wd_yg 19 rfl (by kernel_rfl) rfl rfl rfl (y_move rfl) <| wd_case 61 rfl (fun hc3 => ?_) (fun hc3 => ?_)
    ·
     refine wd_yg 20 rfl (by kernel_rfl) rfl rfl rfl (y_move rfl) <| wd_yg 21 rfl (by kernel_rfl) rfl rfl rfl (y_move rfl) <| wd_yg 22 rfl (by kernel_rfl) rfl rfl rfl (y_addI rfl rfl (by omega)) <| wd_yg 23 rfl (by kernel_rfl) rfl rfl rfl (y_index1 underlying24 sz3 rfl rfl (rdr 1 rfl) (by omega) (by omega)) <| wd_yg 24 rfl (by kernel_rfl) rfl rfl rfl (y_ldI underlying3 rfl rfl (rdr 1 rfl) (by omega) (by omega)) <| wd_yg 25 rfl (by kernel_rfl) rfl rfl rfl (y_move rfl) <| wd_yg 26 rfl (by kernel_rfl) rfl rfl rfl (y_move rfl) <| wd_yg 27 rfl (by kernel_rfl) rfl rfl rfl (y_addI rfl rfl (by omega)) <| wd_yg 28 rfl (by kernel_rfl) rfl rfl rfl (y_index1 underlying24 sz3 rfl rfl (rdr 1 rfl) (by omega) (by omega)) <| wd_yg 29 rfl (by kernel_rfl) rfl rfl rfl (y_ldI underlying3 rfl rfl (rdr 1 rfl) (by omega) (by omega)) <| wd_yg 30 rfl (by kernel_rfl) rfl rfl rfl (y_gt rfl rfl) <| wd_yg 31 rfl (by kernel_rfl) rfl rfl rfl (y_pickT rfl rfl) <| wd_y 32 rfl (by kernel_rfl) rfl (y_pickF rfl rfl) <| wd_nil (by kernel_rfl) ?_
     exact ⟨(sc rfl (sc rfl (sc rfl (sc rfl (Sub.to rfl (mb (by first | omega | exact ⟨fun h => ⟨(by assumption), h⟩, fun h => h.2⟩ | exact .inl (by assumption) | exact ⟨.inr, fun h => h.resolve_left (by assumption)⟩ | exact ⟨fun h => h.resolve_left (by assumption), .inr⟩ | simp [*])) Sub.nil))))), fun _ h => h⟩
    ·
     refine wd_no 20 rfl (by kernel_rfl) rfl rfl rfl rfl <| wd_no 21 rfl (by kernel_rfl) rfl rfl rfl rfl <| wd_no 22 rfl (by kernel_rfl) rfl rfl rfl rfl <| wd_no 23 rfl (by kernel_rfl) rfl rfl rfl rfl <| wd_no 24 rfl (by kernel_rfl) rfl rfl rfl rfl <| wd_no 25 rfl (by kernel_rfl) rfl rfl rfl rfl <| wd_no 26 rfl (by kernel_rfl) rfl rfl rfl rfl <| wd_no 27 rfl (by kernel_rfl) rfl rfl rfl rfl <| wd_no 28 rfl (by kernel_rfl) rfl rfl rfl rfl <| wd_no 29 rfl (by kernel_rfl) rfl rfl rfl rfl <| wd_no 30 rfl (by kernel_rfl) rfl rfl rfl rfl <| wd_yg 31 rfl (by kernel_rfl) rfl rfl rfl (y_pickF rfl rfl) <| wd_y 32 rfl (by kernel_rfl) rfl (y_pickF rfl rfl) <| wd_nil (by kernel_rfl) ?_
     exact ⟨(sc rfl (sc rfl (sc rfl (sc rfl (Sub.to rfl (mb_f (by first | omega | exact ⟨fun h => ⟨(by assumption), h⟩, fun h => h.2⟩ | exact .inl (by assumption) | exact ⟨.inr, fun h => h.resolve_left (by assumption)⟩ | exact ⟨fun h => h.resolve_left (by assumption), .inr⟩ | simp [*])) Sub.nil))))), fun _ h => h⟩
  refine w_if rfl (fun hc4 => ?_) (fun hc4 => ?_)
  ·
   refine wq <| wg rfl rfl <| wr_nil <| w_retR (R1 := []) (fun _ h => h.sel [] (by decide) rfl) ?_
   refine ⟨_, rfl, ?_⟩
   exact absurd (by assumption) hno
  ·
   refine w_skip <| w_reg <| wm rfl rfl <| wA rfl rfl rfl (by omega) <| wg rfl rfl <| wr_nil ?_
   exact ⟨i + 1, ⟨(by omega), (by omega)⟩, (by omega), (sc rfl (sc rfl (sc rfl (sc rfl Sub.nil)))), fun _ h => h⟩
 ·
  refine w_exit <| wq <| wg rfl rfl <| wr_nil <| w_retR (R1 := []) (fun _ h => h.sel [] (by decide) rfl) ?_
  refine ⟨_, rfl, ?_⟩
  rfl

set_option maxRecDepth 100000 in
theorem lcp19_ct {w : World} {A_u : Option Addr} {n_u c_u : Nat} {u : List Int} {A_a : Option Addr} {n_a c_a : Nat} {a : List Int} {A_h : Option Addr} {n_h c_h : Nat} {h : List Int} (h_u : Rd w A_u n_u c_u 1 (ints .u8 u)) (h_a : Rd w A_a n_a c_a 1 (ints .i64 a)) (h_h : Rd w A_h n_h c_h 1 (ints .i64 h)) (hap : a.Perm (iota u.length)) (has : a.Pairwise (ordE u)) (hN : u.length ≤ 1000000) (hh : h = lcpV u a) :
  Ct Tryz.prog 52 #[.slice A_u n_u c_u, .slice A_a n_a c_a, .slice A_h n_h c_h] w.heap.size w [] (fun v R' => v = .bool true) := by
 obtain rfl := h_u.lenI
 obtain rfl := h_a.lenI
 obtain rfl := h_h.lenI
 refine fn1 Tryz.func52 rfl rfl rfl ?_
 have m_u := h_u.max
 have m_a := h_a.max
 have m_h := h_h.max
 have hal : a.length = u.length := by rw [hap.length_eq, iota_len]
 refine wq <| wg rfl rfl <| wr_nil <| wq <| wm rfl rfl <| wm rfl rfl <| wr_a rfl (a_callF en49 rfl (Ct.fresh (fun w hw => lcp17_ct ((h_u.c _) w hw) ((h_a.c _) w hw) hap has hN))) ?_
 rintro _ _ ⟨_, rfl, A_1, c_2, rfl, rfl⟩
 refine wm rfl rfl <| wX rfl rfl rfl <| wX rfl rfl rfl <| wg rfl rfl <| wg rfl rfl <| wr_nil <| wq <| wm rfl rfl <| wm rfl rfl <| wr_a rfl (a_callF en84 rfl (Ct.quiet (fun w hw => sa19_ct ((h_u.c _) w hw) ((h_a.c _) w hw) hap has hN))) ?_
 rintro _ _ ⟨rfl, rfl⟩
 refine wr_setT 17 rfl (trivial) <| wm rfl rfl <| wr_yes rfl rfl <| wm rfl rfl <| wr_yes rfl rfl <| wm rfl rfl <| wr_yes rfl rfl <| wr_a rfl (a_callF en51 rfl (Ct.quiet (fun w hw => equalI_ct ((rdr 0 rfl) w hw) ((h_h.c _) w hw) (by rw [lcpV_len]; omega)))) ?_
 rintro _ _ ⟨rfl, rfl⟩
 refine wr_setT 21 rfl (hh.symm) <| wr_y rfl (y_pickT rfl rfl) <| wg rfl rfl <| wr_nil <| w_retR (R1 := []) (fun _ h => h.sel [] (by decide) rfl) ?_
 refine ⟨_, rfl, ?_⟩
 rfl

end Go.Proofs.YtdfcnalkdlifiaaGreat

/-! ## I2 -/
namespace Go.Proofs.YtdfcnalkdlifiaaGreat
open Go Go.Eng Go.Pure
open Tryz
set_option linter.unusedVariables false
theorem ends_step {cs V : List Int} {i : Int} (h0 : 0 ≤ i) (hi : i < cs.length) (hl : V.length = cs.length) (hV : ∀ j : Int, 0 ≤ j → j < cs.length → rd V j = if j < i then ps cs (j + 1) else ps cs j) :
  ∀ j : Int, 0 ≤ j → j < cs.length → rd (upd V i (rd V i + rd cs i)) j = if j < i + 1 then ps cs (j + 1) else ps cs j := by
 intro j j0 j1
 have e1 : rd (upd V i (rd V i + rd cs i)) j = if j = i then rd V i + rd cs i else rd V j := rd_upd h0 j0 (by omega)
 have e2 := hV i h0 hi
 rw [if_neg (by omega)] at e2
 rw [e1, e2, hV j j0 j1]
 by_cases e : j = i
 ·subst e
  rw [if_pos rfl, if_pos (by omega), ps_succ h0 hi]
 ·rw [if_neg e]
  by_cases h : j < i
  ·rw [if_pos h, if_pos (by omega)]
  ·rw [if_neg h, if_neg (by omega)]
theorem cnt_sum {s : List Int} {k : Int} (hk : 0 ≤ k) (hs : ∀ x ∈ s, 0 ≤ x ∧ x < k) : (cntV s k).sum = s.length := by
 have h := cntV_sum (order := iota s.length) (keys := s) (k := k) hk fun i hi => hs _ (rd_mem (mem_iota.1 hi).1 (mem_iota.1 hi).2)
 rwa [map_iota_rd, iota_len] at h
theorem ends_done {cs V : List Int} (hl : V.length = cs.length) (hV : ∀ j : Int, 0 ≤ j → j < cs.length → rd V j = if j < cs.length then ps cs (j + 1) else ps cs j) : V = endsV cs :=
 list_ext_rd (hl.trans (endsV_len cs).symm) fun j h1 h2 => by rw [rd_endsV h1 (by omega), hV j h1 (by omega), if_pos (by omega)]
set_option maxRecDepth 100000 in
theorem ends_ct {B : Nat} {w0 : World} {R : List Row} {g_x : Nat} {A_s A_m A_c A_r : Option Addr} {c_s c_m c_c c_r : Nat} {s : List Int} {k : Int} (h_x : RdC B w0 R (some ⟨g_x, 0, none⟩) 1 1 4 [.slice A_s s.length c_s, .slice A_m s.length c_m, .slice A_c k.toNat c_c, .slice A_r s.length c_r]) (h_c : RdC B w0 R A_c k.toNat c_c 1 (ints .i64 (cntV s k))) (hk : 0 ≤ k ∧ k ≤ 1048576) (hs : ∀ x ∈ s, 0 ≤ x ∧ x < k) (hN : s.length ≤ 1000000) :
  Ct Tryz.prog 163 #[.pointer (some ⟨g_x, 0, none⟩)] B w0 (R) (fun v R' => ∃ A c, v = .slice A k.toNat c ∧ R' = ⟨3, 1, A, k.toNat, c, ints .i64 (endsV (cntV s k)), false⟩ :: R) := by
 refine fn1 Tryz.func163 rfl rfl rfl ?_
 have hcl : (cntV s k).length = k.toNat := cntV_len _ _
 have hsum : (cntV s k).sum = s.length := cnt_sum (by omega) hs
 have hSl : (startsV (cntV s k)).length = k.toNat := by rw [startsV_len, hcl]
 refine wq <| wg rfl rfl <| wr_nil <| wq <| wm rfl rfl <| wr_y rfl (y_nilCheck rfl) <| wr_y rfl (y_fieldAt (off := 2) (m := 2) underlying187 rfl sz24 rfl rfl rfl) <| wr_y rfl (y_ldIn (RdC.right h_x []) underlying24 rfl rfl rfl) <| wr_a rfl (a_callF en95 rfl (Ct.fresh (fun w hw => starts_ct ((RdC.right h_c []) w hw) (cntV_nonneg _ _) (by rw [hsum]; omega) (by rw [hcl]; omega)))) ?_
 rintro _ _ ⟨_, rfl, A_1, c_2, rfl, rfl⟩
 refine wg rfl rfl <| wr_nil <| w_seq <| wq <| wm rfl rfl <| wr_y rfl (y_nilCheck rfl) <| wr_y rfl (y_fieldAt (off := 2) (m := 2) underlying187 rfl sz24 rfl rfl rfl) <| wr_y rfl (y_ldIn (RdC.right h_x [_]) underlying24 rfl rfl rfl) <| wr_y rfl (y_len underlying24 rfl) <| wm rfl rfl <| wr_nil <| w_block ?_
 refine w_loop2 (fun (i : Int) (V : List Int) => [(3, .slice A_1 ((startsV (cntV s k)).length) c_2), (14, .slice A_c k.toNat c_c), (15, .int .i64 ((k.toNat : Nat) : Int)), (16, .int .i64 i)]) (fun (i : Int) (V : List Int) => (⟨3, 1, A_1, (startsV (cntV s k)).length, c_2, ints .i64 V, false⟩ :: R)) (fun (i : Int) (V : List Int) => (0 ≤ i) ∧ (i ≤ (cntV s k).length) ∧ (V.length = (cntV s k).length) ∧ (∀ j : Int, 0 ≤ j → j < (cntV s k).length → rd V j = if j < i then ps (cntV s k) (j + 1) else ps (cntV s k) j)) (fun (i : Int) (V : List Int) => ((cntV s k).length - i).toNat) ?_ ?_
 ·
  exact ⟨0, startsV (cntV s k), ⟨(by omega), (by omega), (by rw [startsV_len]), (fun j h1 h2 => by rw [if_neg (by omega)]; exact rd_startsV h1 h2)⟩, (sc rfl (sc rfl (sc rfl (sc rfl Sub.nil)))), fun _ h => h⟩
 intro i V ⟨hi0, hi1, hVl, hV⟩
 refine wq <| wL rfl rfl rfl <| wr_nil <| w_seq <| w_if rfl (fun hc1 => ?_) (fun hc1 => ?_)
 ·
  have hb1 := ps_bound (cntV_nonneg s k) i
  have hb2 := ps_bound (cntV_nonneg s k) (i + 1)
  rw [hsum] at hb1 hb2
  have hvi := hV i hi0 (by omega)
  rw [if_neg (by omega)] at hvi
  have hps := ps_succ (L := cntV s k) hi0 (by omega)
  refine w_skip <| w_seq <| w_block <| wq <| wm rfl rfl <| wr_y rfl (y_index1 underlying24 sz3 rfl rfl (RdC.right h_c [_]) (by omega) (by omega)) <| wr_y rfl (y_ldI underlying3 rfl rfl (RdC.right h_c [_]) (by omega) (by omega)) <| wg rfl rfl <| wg rfl rfl <| wr_nil <| w_reg <| wm rfl rfl <| wm rfl rfl <| wr_y rfl (y_index1 underlying24 sz3 rfl rfl (rdr 0 rfl) (by omega) (by omega)) ?_
  refine wr_y rfl (y_ldI underlying3 rfl rfl (rdr 0 rfl) (by omega) (by omega)) <| wm rfl rfl <| wA rfl rfl rfl (by omega) <| wr_y rfl (y_index1 underlying24 sz3 rfl rfl (rdr 0 rfl) (by omega) (by omega)) <| wr_n (a_storeI 0 rfl sz3 rfl rfl (by omega) (by omega)) ?_
  rintro _ _ rfl
  refine wr_rows (R1 := (⟨3, 1, A_1, (startsV (cntV s k)).length, c_2, ints .i64 (upd V i ((rd V i) + (rd (cntV s k) i))), false⟩ :: R)) rfl <| wr_nil <| w_reg <| wA rfl rfl rfl (by omega) <| wm rfl rfl <| wr_nil ?_
  exact ⟨i + 1, upd V i ((rd V i) + (rd (cntV s k) i)), ⟨(by omega), (by omega), (by rw [upd_length]; exact hVl), (ends_step hi0 (by omega) hVl hV)⟩, (by omega), (sc rfl (sc rfl (sc rfl (sc rfl Sub.nil)))), fun _ h => h⟩
 ·
  refine w_exit <| wq <| wm rfl rfl <| wg rfl rfl <| wr_nil ?_
  have hke : k.toNat = (cntV s k).length := hcl.symm
  obtain rfl : V = endsV (cntV s k) := ends_done hVl fun j h1 h2 => by rw [hV j h1 h2, if_pos (by omega), if_pos (by omega)]
  refine w_ret ?_
  rw [startsV_len, hcl]
  exact ⟨_, rfl, _, _, rfl, rfl⟩

theorem lgC {s D : List Int} {i : Int} (hent : rd D i = -1 ∨ (0 ≤ rd D i ∧ rd D i < s.length)) : (0 < rd D i ∧ ¬ rdb (smL s) (rd D i - 1) = true) ↔ (0 < rd D i ∧ smB s (rd D i - 1) = false) := by
 constructor
 ·rintro ⟨h1, h2⟩
  rw [rdb_smL (by omega) (by omega)] at h2
  exact ⟨h1, by simpa using h2⟩
 ·rintro ⟨h1, h2⟩
  rw [rdb_smL (by omega) (by omega), h2]
  exact ⟨h1, by simp⟩
theorem smC {s D : List Int} {i : Int} (hent : rd D i = -1 ∨ (0 ≤ rd D i ∧ rd D i < s.length)) : (0 < rd D i ∧ rdb (smL s) (rd D i - 1) = true) ↔ (0 < rd D i ∧ smB s (rd D i - 1) = true) := by
 constructor
 ·rintro ⟨h1, h2⟩
  rw [rdb_smL (by omega) (by omega)] at h2
  exact ⟨h1, h2⟩
 ·rintro ⟨h1, h2⟩
  rw [rdb_smL (by omega) (by omega), h2]
  exact ⟨h1, rfl⟩
section
variable {s l D H : List Int} {k i : Int} (hk : 0 ≤ k) (hs : ∀ x ∈ s, 0 ≤ x ∧ x < k) (hp : l.Perm (fstL s)) (hn : 0 < s.length)
include hk hs hp hn
theorem fLeZ (i0 : 0 ≤ i) (hi : i < s.length) (hD : D = (itL s k l i.toNat).1) (hH : H = (itL s k l i.toNat).2) : (rd D i = -1 ∨ (0 ≤ rd D i ∧ rd D i < s.length)) ∧ (D.length = s.length ∧ H.length = k.toNat) := by
 have h := fLe hk hs hp hn (i := i.toNat) (by omega) hD hH
 rwa [Int.toNat_of_nonneg i0] at h
theorem fLZ (i0 : 0 ≤ i) (hi : i < s.length) (hD : D = (itL s k l i.toNat).1) (hH : H = (itL s k l i.toNat).2) (hc : 0 < rd D i ∧ ¬ rdb (smL s) (rd D i - 1) = true) :
  rd D i < s.length ∧ (0 ≤ rd s (rd D i - 1) ∧ rd s (rd D i - 1) < k) ∧ (0 ≤ rd H (rd s (rd D i - 1)) ∧ rd H (rd s (rd D i - 1)) < s.length) ∧ upd D (rd H (rd s (rd D i - 1))) (rd D i - 1) = (itL s k l (i + 1).toNat).1 ∧ upd H (rd s (rd D i - 1)) (rd H (rd s (rd D i - 1)) + 1) = (itL s k l (i + 1).toNat).2 := by
 have he := (fLeZ hk hs hp hn i0 hi hD hH).1
 have h := fL hk hs hp hn (i := i.toNat) (by omega) hD hH (by rw [Int.toNat_of_nonneg i0]; exact (lgC he).1 hc)
 rw [Int.toNat_of_nonneg i0] at h
 rwa [show (i + 1).toNat = i.toNat + 1 by omega]
theorem fLsZ (i0 : 0 ≤ i) (hi : i < s.length) (hD : D = (itL s k l i.toNat).1) (hH : H = (itL s k l i.toNat).2) (hc : ¬ (0 < rd D i ∧ ¬ rdb (smL s) (rd D i - 1) = true)) : D = (itL s k l (i + 1).toNat).1 ∧ H = (itL s k l (i + 1).toNat).2 := by
 have he := (fLeZ hk hs hp hn i0 hi hD hH).1
 have h := fLs (i := i.toNat) hD hH (by rw [Int.toNat_of_nonneg i0]; exact fun h => hc ((lgC he).2 h))
 rwa [show (i + 1).toNat = i.toNat + 1 by omega]
theorem fSeZ (i0 : 0 ≤ i) (hi : i < s.length) (hD : D = (itS s k l (s.length - 1 - i).toNat).1) (hH : H = (itS s k l (s.length - 1 - i).toNat).2) : (rd D i = -1 ∨ (0 ≤ rd D i ∧ rd D i < s.length)) ∧ (D.length = s.length ∧ H.length = k.toNat) :=
 fSe hk hs hp hn (m := ((s.length : Int) - 1 - i).toNat) (by omega) (by omega) hD hH
theorem fSZ (i0 : 0 ≤ i) (hi : i < s.length) (hD : D = (itS s k l (s.length - 1 - i).toNat).1) (hH : H = (itS s k l (s.length - 1 - i).toNat).2) (hc : 0 < rd D i ∧ rdb (smL s) (rd D i - 1) = true) :
  rd D i < s.length ∧ (0 ≤ rd s (rd D i - 1) ∧ rd s (rd D i - 1) < k) ∧ (0 ≤ rd H (rd s (rd D i - 1)) - 1 ∧ rd H (rd s (rd D i - 1)) - 1 < s.length) ∧ upd D (rd H (rd s (rd D i - 1)) - 1) (rd D i - 1) = (itS s k l (s.length - 1 - (i - 1)).toNat).1 ∧ upd H (rd s (rd D i - 1)) (rd H (rd s (rd D i - 1)) - 1) = (itS s k l (s.length - 1 - (i - 1)).toNat).2 := by
 have he := (fSeZ hk hs hp hn i0 hi hD hH).1
 have h := fS hk hs hp hn (m := ((s.length : Int) - 1 - i).toNat) (by omega) (by omega) hD hH ((smC he).1 hc)
 rwa [show ((s.length : Int) - 1 - (i - 1)).toNat = ((s.length : Int) - 1 - i).toNat + 1 by omega]
theorem fSsZ (i0 : 0 ≤ i) (hi : i < s.length) (hD : D = (itS s k l (s.length - 1 - i).toNat).1) (hH : H = (itS s k l (s.length - 1 - i).toNat).2) (hc : ¬ (0 < rd D i ∧ rdb (smL s) (rd D i - 1) = true)) : D = (itS s k l (s.length - 1 - (i - 1)).toNat).1 ∧ H = (itS s k l (s.length - 1 - (i - 1)).toNat).2 := by
 have he := (fSeZ hk hs hp hn i0 hi hD hH).1
 have h := fSs (m := ((s.length : Int) - 1 - i).toNat) (i := i) (by omega) hD hH (fun h => hc ((smC he).2 h))
 rwa [show ((s.length : Int) - 1 - (i - 1)).toNat = ((s.length : Int) - 1 - i).toNat + 1 by omega]
end
set_option maxRecDepth 100000 in
theorem lay_ct {B : Nat} {w0 : World} {R : List Row} {g_x : Nat} {A_s A_m A_c A_r : Option Addr} {c_s c_m c_c c_r : Nat} {s : List Int} {k : Int} {A_e : Option Addr} {n_e c_e : Nat} {row E : List Int} {j : Int} (h_x : RdC B w0 R (some ⟨g_x, 0, none⟩) 1 1 4 [.slice A_s s.length c_s, .slice A_m s.length c_m, .slice A_c k.toNat c_c, .slice A_r s.length c_r]) (h_s : RdC B w0 R A_s s.length c_s 1 (ints .i64 s)) (hk : 0 ≤ k ∧ k ≤ 1048576) (hN : s.length ≤ 1000000) (hj : 0 ≤ j ∧ j < s.length) (hc : 0 ≤ rd s j ∧ rd s j < k) (hl : row.length = s.length ∧ E.length = k.toNat ∧ n_e = k.toNat) (hv : 0 ≤ (rd E (rd s j)) - 1 ∧ (rd E (rd s j)) - 1 < s.length) :
  Ct Tryz.prog 164 #[.pointer (some ⟨g_x, 0, none⟩), .slice A_e n_e c_e, .int .i64 j] B w0 (⟨3, 1, A_r, s.length, c_r, ints .i64 row, false⟩ :: ⟨3, 1, A_e, n_e, c_e, ints .i64 E, false⟩ :: R) (fun v R' => v = .tuple #[] ∧ R' = ⟨3, 1, A_r, s.length, c_r, ints .i64 (upd row ((rd E (rd s j)) - 1) j), false⟩ :: ⟨3, 1, A_e, n_e, c_e, ints .i64 (upd E (rd s j) ((rd E (rd s j)) - 1)), false⟩ :: R) := by
 refine fn0 Tryz.func164 rfl rfl rfl ?_
 obtain ⟨hl1, hl2, hl3⟩ := hl
 have he : rd (upd E (rd s j) ((rd E (rd s j)) - 1)) (rd s j) = (rd E (rd s j)) - 1 := rd_upd_same hc.1 (by omega)
 refine wq <| wm rfl rfl <| wm rfl rfl <| wr_y rfl (y_nilCheck rfl) <| wr_y rfl (y_fieldAt (off := 0) (m := 0) underlying187 rfl sz24 rfl rfl rfl) <| wr_y rfl (y_ldIn (RdC.right h_x [_, _]) underlying24 rfl rfl rfl) <| wm rfl rfl <| wr_y rfl (y_index1 underlying24 sz3 rfl rfl (RdC.right h_s [_, _]) (by omega) (by omega)) <| wr_y rfl (y_ldI underlying3 rfl rfl (RdC.right h_s [_, _]) (by omega) (by omega)) <| wr_y rfl (y_index1 underlying24 sz3 rfl rfl (rdr 1 rfl) (by omega) (by omega)) <| wr_y rfl (y_ldI underlying3 rfl rfl (rdr 1 rfl) (by omega) (by omega)) <| wS rfl rfl rfl (by omega) <| wr_y rfl (y_index1 underlying24 sz3 rfl rfl (rdr 1 rfl) (by omega) (by omega)) <| wr_n (a_storeI 1 rfl sz3 rfl rfl (by omega) (by omega)) ?_
 rintro _ _ rfl
 refine wr_rows (R1 := (⟨3, 1, A_r, s.length, c_r, ints .i64 row, false⟩ :: ⟨3, 1, A_e, n_e, c_e, ints .i64 (upd E (rd s j) ((rd E (rd s j)) - 1)), false⟩ :: R)) rfl <| wr_nil <| w_regd mixed <| wd_y 0 rfl (by kernel_rfl) rfl (y_move rfl) <| wd_y 1 rfl (by kernel_rfl) rfl (y_nilCheck rfl) <| wd_y 2 rfl (by kernel_rfl) rfl (y_fieldAt (off := 3) (m := 3) underlying187 rfl sz24 rfl rfl rfl) <| wd_y 3 rfl (by kernel_rfl) rfl (y_ldIn (RdC.right h_x [_, _]) underlying24 rfl rfl rfl) <| wd_y 4 rfl (by kernel_rfl) rfl (y_move rfl) <| wd_y 5 rfl (by kernel_rfl) rfl (y_move rfl) <| wd_y 6 rfl (by kernel_rfl) rfl (y_nilCheck rfl) <| wd_y 7 rfl (by kernel_rfl) rfl (y_fieldAt (off := 0) (m := 0) underlying187 rfl sz24 rfl rfl rfl) <| wd_y 8 rfl (by kernel_rfl) rfl (y_ldIn (RdC.right h_x [_, _]) underlying24 rfl rfl rfl) <| wd_y 9 rfl (by kernel_rfl) rfl (y_move rfl) <| wd_y 10 rfl (by kernel_rfl) rfl (y_index1 underlying24 sz3 rfl rfl (RdC.right h_s [_, _]) (by omega) (by omega)) <| wd_y 11 rfl (by kernel_rfl) rfl (y_ldI underlying3 rfl rfl (RdC.right h_s [_, _]) (by omega) (by omega)) ?_
 refine wd_y 12 rfl (by kernel_rfl) rfl (y_index1 underlying24 sz3 rfl rfl (rdr 1 rfl) (by omega) (by omega)) <| wd_y 13 rfl (by kernel_rfl) rfl (y_ldI underlying3 rfl rfl (rdr 1 rfl) (by omega) (by omega)) <| wd_y 14 rfl (by kernel_rfl) rfl (y_move rfl) <| wd_y 15 rfl (by kernel_rfl) rfl (y_index1 underlying24 sz3 rfl rfl (rdr 0 rfl) (by omega) (by omega)) <| wd_n 16 rfl (by kernel_rfl) (a_storeI 0 rfl sz3 rfl rfl (by omega) (by omega)) ?_
 rintro _ _ rfl
 refine ⟨.inl (by kernel_rfl), ?_⟩
 refine wd_rows (R1 := (⟨3, 1, A_r, s.length, c_r, ints .i64 (upd row (rd (upd E (rd s j) ((rd E (rd s j)) - 1)) (rd s j)) j), false⟩ :: ⟨3, 1, A_e, n_e, c_e, ints .i64 (upd E (rd s j) ((rd E (rd s j)) - 1)), false⟩ :: R)) rfl <| wd_nil (by kernel_rfl) ?_
 exact ⟨rfl, by rw [he]⟩

set_option maxRecDepth 100000 in
theorem layf_ct {B : Nat} {w0 : World} {R : List Row} {g_x : Nat} {A_s A_m A_c A_r : Option Addr} {c_s c_m c_c c_r : Nat} {s : List Int} {k : Int} {A_e : Option Addr} {n_e c_e : Nat} {row E : List Int} {j : Int} (h_x : RdC B w0 R (some ⟨g_x, 0, none⟩) 1 1 4 [.slice A_s s.length c_s, .slice A_m s.length c_m, .slice A_c k.toNat c_c, .slice A_r s.length c_r]) (h_s : RdC B w0 R A_s s.length c_s 1 (ints .i64 s)) (hk : 0 ≤ k ∧ k ≤ 1048576) (hN : s.length ≤ 1000000) (hj : 0 ≤ j ∧ j < s.length) (hc : 0 ≤ rd s j ∧ rd s j < k) (hl : row.length = s.length ∧ E.length = k.toNat ∧ n_e = k.toNat) (hv : 0 ≤ rd E (rd s j) ∧ rd E (rd s j) < s.length) :
  Ct Tryz.prog 176 #[.pointer (some ⟨g_x, 0, none⟩), .slice A_e n_e c_e, .int .i64 j] B w0 (⟨3, 1, A_r, s.length, c_r, ints .i64 row, false⟩ :: ⟨3, 1, A_e, n_e, c_e, ints .i64 E, false⟩ :: R) (fun v R' => v = .tuple #[] ∧ R' = ⟨3, 1, A_r, s.length, c_r, ints .i64 (upd row (rd E (rd s j)) j), false⟩ :: ⟨3, 1, A_e, n_e, c_e, ints .i64 (upd E (rd s j) ((rd E (rd s j)) + 1)), false⟩ :: R) := by
 refine fn0 Tryz.func176 rfl rfl rfl ?_
 obtain ⟨hl1, hl2, hl3⟩ := hl
 refine w_seq <| w_regd mixed <| wd_y 0 rfl (by kernel_rfl) rfl (y_move rfl) <| wd_y 1 rfl (by kernel_rfl) rfl (y_nilCheck rfl) <| wd_y 2 rfl (by kernel_rfl) rfl (y_fieldAt (off := 3) (m := 3) underlying187 rfl sz24 rfl rfl rfl) <| wd_y 3 rfl (by kernel_rfl) rfl (y_ldIn (RdC.right h_x [_, _]) underlying24 rfl rfl rfl) <| wd_y 4 rfl (by kernel_rfl) rfl (y_move rfl) <| wd_y 5 rfl (by kernel_rfl) rfl (y_move rfl) <| wd_y 6 rfl (by kernel_rfl) rfl (y_nilCheck rfl) <| wd_y 7 rfl (by kernel_rfl) rfl (y_fieldAt (off := 0) (m := 0) underlying187 rfl sz24 rfl rfl rfl) <| wd_y 8 rfl (by kernel_rfl) rfl (y_ldIn (RdC.right h_x [_, _]) underlying24 rfl rfl rfl) <| wd_y 9 rfl (by kernel_rfl) rfl (y_move rfl) <| wd_y 10 rfl (by kernel_rfl) rfl (y_index1 underlying24 sz3 rfl rfl (RdC.right h_s [_, _]) (by omega) (by omega)) <| wd_y 11 rfl (by kernel_rfl) rfl (y_ldI underlying3 rfl rfl (RdC.right h_s [_, _]) (by omega) (by omega)) <| wd_y 12 rfl (by kernel_rfl) rfl (y_index1 underlying24 sz3 rfl rfl (rdr 1 rfl) (by omega) (by omega)) ?_
 refine wd_y 13 rfl (by kernel_rfl) rfl (y_ldI underlying3 rfl rfl (rdr 1 rfl) (by omega) (by omega)) <| wd_y 14 rfl (by kernel_rfl) rfl (y_move rfl) <| wd_y 15 rfl (by kernel_rfl) rfl (y_index1 underlying24 sz3 rfl rfl (rdr 0 rfl) (by omega) (by omega)) <| wd_n 16 rfl (by kernel_rfl) (a_storeI 0 rfl sz3 rfl rfl (by omega) (by omega)) ?_
 rintro _ _ rfl
 refine ⟨.inl (by kernel_rfl), ?_⟩
 refine wd_rows (R1 := (⟨3, 1, A_r, s.length, c_r, ints .i64 (upd row (rd E (rd s j)) j), false⟩ :: ⟨3, 1, A_e, n_e, c_e, ints .i64 E, false⟩ :: R)) rfl <| wd_nil (by kernel_rfl) <| w_reg <| wm rfl rfl <| wm rfl rfl <| wr_y rfl (y_nilCheck rfl) <| wr_y rfl (y_fieldAt (off := 0) (m := 0) underlying187 rfl sz24 rfl rfl rfl) <| wr_y rfl (y_ldIn (RdC.right h_x [_, _]) underlying24 rfl rfl rfl) <| wm rfl rfl <| wr_y rfl (y_index1 underlying24 sz3 rfl rfl (RdC.right h_s [_, _]) (by omega) (by omega)) <| wr_y rfl (y_ldI underlying3 rfl rfl (RdC.right h_s [_, _]) (by omega) (by omega)) <| wr_y rfl (y_index1 underlying24 sz3 rfl rfl (rdr 1 rfl) (by omega) (by omega)) <| wr_y rfl (y_ldI underlying3 rfl rfl (rdr 1 rfl) (by omega) (by omega)) <| wA rfl rfl rfl (by omega) <| wr_y rfl (y_index1 underlying24 sz3 rfl rfl (rdr 1 rfl) (by omega) (by omega)) ?_
 refine wr_n (a_storeI 1 rfl sz3 rfl rfl (by omega) (by omega)) ?_
 rintro _ _ rfl
 refine wr_rows (R1 := (⟨3, 1, A_r, s.length, c_r, ints .i64 (upd row (rd E (rd s j)) j), false⟩ :: ⟨3, 1, A_e, n_e, c_e, ints .i64 (upd E (rd s j) ((rd E (rd s j)) + 1)), false⟩ :: R)) rfl <| wr_nil ?_
 exact ⟨rfl, rfl⟩

set_option maxRecDepth 100000 in
theorem large_ct {B : Nat} {w0 : World} {R : List Row} {g_x : Nat} {A_s A_m A_c A_r : Option Addr} {c_s c_m c_c c_r : Nat} {s l : List Int} {k : Int} {row : List Int} (h_x : RdC B w0 R (some ⟨g_x, 0, none⟩) 1 1 4 [.slice A_s s.length c_s, .slice A_m s.length c_m, .slice A_c k.toNat c_c, .slice A_r s.length c_r]) (h_s : RdC B w0 R A_s s.length c_s 1 (ints .i64 s)) (h_m : RdC B w0 R A_m s.length c_m 1 (bools (smL s))) (h_c : RdC B w0 R A_c k.toNat c_c 1 (ints .i64 (cntV s k))) (hk : 0 ≤ k ∧ k ≤ 1048576) (hs : ∀ x ∈ s, 0 ≤ x ∧ x < k) (hN : s.length ≤ 1000000) (hp : l.Perm (fstL s)) (hn : 0 < s.length) (hrow : row = (itF s k l).1) :
  Ct Tryz.prog 165 #[.pointer (some ⟨g_x, 0, none⟩)] B w0 (⟨3, 1, A_r, s.length, c_r, ints .i64 row, false⟩ :: R) (fun v R' => v = .tuple #[] ∧ R' = ⟨3, 1, A_r, s.length, c_r, ints .i64 (itL s k l s.length).1, false⟩ :: R) := by
 refine fn0 Tryz.func165 rfl rfl rfl ?_
 have hcl : (cntV s k).length = k.toNat := cntV_len _ _
 have hsum : (cntV s k).sum = s.length := cnt_sum hk.1 hs
 have hSl : (startsV (cntV s k)).length = k.toNat := by rw [startsV_len, hcl]
 obtain ⟨f1, f2, f3, f4, f5, f6⟩ := fL0 hk.1 hs hp hn hrow (rfl : startsV (cntV s k) = _)
 refine wq <| wm rfl rfl <| wr_y rfl (y_nilCheck rfl) <| wr_y rfl (y_fieldAt (off := 2) (m := 2) underlying187 rfl sz24 rfl rfl rfl) <| wr_y rfl (y_ldIn (RdC.right h_x [_]) underlying24 rfl rfl rfl) <| wr_a rfl (a_callF en95 rfl (Ct.fresh (fun w hw => starts_ct ((RdC.right h_c [_]) w hw) (cntV_nonneg _ _) (by rw [hsum]; omega) (by rw [hcl]; omega)))) ?_
 rintro _ _ ⟨_, rfl, A_1, c_2, rfl, rfl⟩
 refine wg rfl rfl <| wr_nil <| wq <| wm rfl rfl <| wm rfl rfl <| wm rfl rfl <| wr_y rfl (y_nilCheck rfl) <| wr_y rfl (y_fieldAt (off := 0) (m := 0) underlying187 rfl sz24 rfl rfl rfl) <| wr_y rfl (y_ldIn (RdC.right h_x [_, _]) underlying24 rfl rfl rfl) <| wr_y rfl (y_len underlying24 rfl) <| wS rfl rfl rfl (by omega) <| wr_sub (R1 := (⟨3, 1, A_r, s.length, c_r, ints .i64 row, false⟩ :: ⟨3, 1, A_1, (startsV (cntV s k)).length, c_2, ints .i64 (startsV (cntV s k)), false⟩ :: R)) (Sub.refl _) (fun _ h => h.selR (F := [_, _]) (F' := [_, _]) [1, 0] (by decide) rfl) <| wr_a rfl (a_callF en176 rfl (layf_ct (row := row) (E := (startsV (cntV s k))) (j := (((s.length : Nat) : Int) - 1)) (RdC.right h_x []) (RdC.right h_s []) hk hN ⟨by omega, by omega⟩ f1 ⟨f3.1, f3.2, by rw [startsV_len, hcl]⟩ f2)) ?_
 rintro _ _ ⟨rfl, rfl⟩
 refine wr_rows (R1 := (⟨3, 1, A_r, s.length, c_r, ints .i64 (upd row (rd (startsV (cntV s k)) (rd s (((s.length : Nat) : Int) - 1))) (((s.length : Nat) : Int) - 1)), false⟩ :: ⟨3, 1, A_1, (startsV (cntV s k)).length, c_2, ints .i64 (upd (startsV (cntV s k)) (rd s (((s.length : Nat) : Int) - 1)) ((rd (startsV (cntV s k)) (rd s (((s.length : Nat) : Int) - 1))) + 1)), false⟩ :: R)) rfl <| wr_nil <| wq <| wm rfl rfl <| wr_y rfl (y_nilCheck rfl) <| wr_y rfl (y_fieldAt (off := 3) (m := 3) underlying187 rfl sz24 rfl rfl rfl) <| wr_y rfl (y_ldIn (RdC.right h_x [_, _]) underlying24 rfl rfl rfl) <| wr_y rfl (y_len underlying24 rfl) <| wm rfl rfl <| wr_nil <| w_block ?_
 refine w_loop3 (fun (i : Int) (D : List Int) (H : List Int) => [(0, .pointer (some ⟨g_x, 0, none⟩)), (2, .slice A_1 ((startsV (cntV s k)).length) c_2), (23, .int .i64 ((s.length : Nat) : Int)), (24, .int .i64 i)]) (fun (i : Int) (D : List Int) (H : List Int) => (⟨3, 1, A_r, s.length, c_r, ints .i64 D, false⟩ :: ⟨3, 1, A_1, (startsV (cntV s k)).length, c_2, ints .i64 H, false⟩ :: R)) (fun (i : Int) (D : List Int) (H : List Int) => (0 ≤ i) ∧ (i ≤ s.length) ∧ (D = (itL s k l i.toNat).1) ∧ (H = (itL s k l i.toNat).2)) (fun (i : Int) (D : List Int) (H : List Int) => (s.length - i).toNat) ?_ ?_
 ·
  exact ⟨0, upd row (rd (startsV (cntV s k)) (rd s (((s.length : Nat) : Int) - 1))) (((s.length : Nat) : Int) - 1), upd (startsV (cntV s k)) (rd s (((s.length : Nat) : Int) - 1)) ((rd (startsV (cntV s k)) (rd s (((s.length : Nat) : Int) - 1))) + 1), ⟨(by omega), (by omega), (f4), (f5)⟩, (sc rfl (sc rfl (sc rfl (sc rfl Sub.nil)))), fun _ h => h⟩
 intro i D H ⟨hi0, hi1, hD, hH⟩
 refine wq <| wL rfl rfl rfl <| wr_nil <| w_seq <| w_if rfl (fun hc1 => ?_) (fun hc1 => ?_)
 ·
  have hf := fLeZ hk.1 hs hp hn hi0 (by omega) hD hH
  have hf1 := hf.1
  refine w_skip <| w_seq <| w_block <| wq <| wm rfl rfl <| wg rfl rfl <| wr_nil <| wq <| wm rfl rfl <| wr_y rfl (y_nilCheck rfl) <| wr_y rfl (y_fieldAt (off := 3) (m := 3) underlying187 rfl sz24 rfl rfl rfl) <| wr_y rfl (y_ldIn (RdC.right h_x [_, _]) underlying24 rfl rfl rfl) <| wm rfl rfl ?_
  refine wr_y rfl (y_index1 underlying24 sz3 rfl rfl (rdr 0 rfl) (by omega) (by omega)) <| wr_y rfl (y_ldI underlying3 rfl rfl (rdr 0 rfl) (by omega) (by omega)) <| wg rfl rfl <| wr_nil <| wq <| wm rfl rfl <| wr_y rfl (y_gt rfl rfl) <| wm rfl rfl <| wr_mid 10 [(0, .pointer (some ⟨g_x, 0, none⟩)), (2, .slice A_1 ((startsV (cntV s k)).length) c_2), (4, .int .i64 (rd D i)), (23, .int .i64 ((s.length : Nat) : Int)), (24, .int .i64 i), (46, .bool (decide ((0 < (rd D i)) ∧ (¬ (rdb (smL s) ((rd D i) - 1) = true)))))] (⟨3, 1, A_r, s.length, c_r, ints .i64 D, false⟩ :: ⟨3, 1, A_1, (startsV (cntV s k)).length, c_2, ints .i64 H, false⟩ :: R) ?_ ?_
  ·
   refine wr_case 36 rfl (fun hc2 => ?_) (fun hc2 => ?_)
   ·
    refine wr_yes rfl rfl <| wm rfl rfl <| wr_yes rfl rfl <| wr_y rfl (y_nilCheck rfl) <| wr_yes rfl rfl <| wr_y rfl (y_fieldAt (off := 1) (m := 1) underlying187 rfl sz101 rfl rfl rfl) <| wr_yes rfl rfl <| wr_y rfl (y_ldIn (RdC.right h_x [_, _]) underlying101 rfl rfl rfl) <| wr_yes rfl rfl <| wm rfl rfl <| wr_yes rfl rfl <| wS rfl rfl rfl (by omega) <| wr_yes rfl rfl <| wr_y rfl (y_index1 underlying101 sz4 rfl rfl (RdC.right h_m [_, _]) (by omega) (by omega)) <| wr_yes rfl rfl ?_
    refine wr_y rfl (y_ldB underlying4 rfl rfl (RdC.right h_m [_, _]) (by omega) (by omega)) <| wr_yes rfl rfl <| wr_y rfl (y_notD rfl) <| wr_y rfl (y_pickT rfl rfl) <| wr_nil ?_
    exact ⟨(sc rfl (sc rfl (sc rfl (sc rfl (sc rfl (Sub.to rfl (mb (by first | omega | exact ⟨fun h => ⟨(by assumption), h⟩, fun h => h.2⟩ | exact .inl (by assumption) | exact ⟨.inr, fun h => h.resolve_left (by assumption)⟩ | exact ⟨fun h => h.resolve_left (by assumption), .inr⟩ | simp [*])) Sub.nil)))))), fun _ h => h⟩
   ·
    refine wr_no rfl rfl rfl rfl <| wr_no rfl rfl rfl rfl <| wr_no rfl rfl rfl rfl <| wr_no rfl rfl rfl rfl <| wr_no rfl rfl rfl rfl <| wr_no rfl rfl rfl rfl <| wr_no rfl rfl rfl rfl <| wr_no rfl rfl rfl rfl <| wr_no rfl rfl rfl rfl <| wr_y rfl (y_pickF rfl rfl) <| wr_nil ?_
    exact ⟨(sc rfl (sc rfl (sc rfl (sc rfl (sc rfl (Sub.to rfl (mb_f (by first | omega | exact ⟨fun h => ⟨(by assumption), h⟩, fun h => h.2⟩ | exact .inl (by assumption) | exact ⟨.inr, fun h => h.resolve_left (by assumption)⟩ | exact ⟨fun h => h.resolve_left (by assumption), .inr⟩ | simp [*])) Sub.nil)))))), fun _ h => h⟩
  refine wr_nil <| w_if rfl (fun hc3 => ?_) (fun hc3 => ?_)
  ·
   obtain ⟨g1, g2, g3, g4, g5⟩ := fLZ hk.1 hs hp hn hi0 (by omega) hD hH hc3
   refine w_reg <| wm rfl rfl <| wm rfl rfl <| wm rfl rfl <| wS rfl rfl rfl (by omega) <| wr_a rfl (a_callF en176 rfl (layf_ct (row := D) (E := H) (j := ((rd D i) - 1)) (RdC.right h_x []) (RdC.right h_s []) hk hN ⟨by omega, by omega⟩ g2 ⟨hf.2.1, hf.2.2, by rw [startsV_len, hcl]⟩ g3)) ?_
   rintro _ _ ⟨rfl, rfl⟩
   refine wr_rows (R1 := (⟨3, 1, A_r, s.length, c_r, ints .i64 (upd D (rd H (rd s ((rd D i) - 1))) ((rd D i) - 1)), false⟩ :: ⟨3, 1, A_1, (startsV (cntV s k)).length, c_2, ints .i64 (upd H (rd s ((rd D i) - 1)) ((rd H (rd s ((rd D i) - 1))) + 1)), false⟩ :: R)) rfl <| wr_nil <| w_reg <| wA rfl rfl rfl (by omega) <| wm rfl rfl <| wr_nil ?_
   exact ⟨i + 1, upd D (rd H (rd s ((rd D i) - 1))) ((rd D i) - 1), upd H (rd s ((rd D i) - 1)) ((rd H (rd s ((rd D i) - 1))) + 1), ⟨(by omega), (by omega), (g4), (g5)⟩, (by omega), (sc rfl (sc rfl (sc rfl (sc rfl Sub.nil)))), fun _ h => h⟩
  ·
   have g4 := fLsZ hk.1 hs hp hn hi0 (by omega) hD hH hc3
   refine w_skip <| w_reg <| wA rfl rfl rfl (by omega) <| wm rfl rfl <| wr_nil ?_
   exact ⟨i + 1, D, H, ⟨(by omega), (by omega), (g4.1), (g4.2)⟩, (by omega), (sc rfl (sc rfl (sc rfl (sc rfl Sub.nil)))), fun _ h => h⟩
 ·
  refine w_sub (R1 := (⟨3, 1, A_r, s.length, c_r, ints .i64 D, false⟩ :: R)) (Sub.refl _) (fun _ h => h.selR (F := [_, _]) (F' := [_]) [0] (by decide) rfl) ?_
  have hie : i.toNat = s.length := by omega
  rw [hie] at hD
  subst hD
  refine w_exit ?_
  exact ⟨rfl, rfl⟩

theorem cl_C {s D : List Int} {q : Int} (hent : rd D q = -1 ∨ (0 ≤ rd D q ∧ rd D q < s.length)) : (0 ≤ rd D q ∧ rdb (smL s) (rd D q) = true) ↔ (0 ≤ rd D q ∧ smB s (rd D q) = true) := by
 constructor <;> rintro ⟨h1, h2⟩ <;> refine ⟨h1, ?_⟩
 ·rwa [rdb_smL h1 (by omega)] at h2
 ·rwa [rdb_smL h1 (by omega)]
theorem clr_ent {s l D : List Int} {k q : Int} (hk : 0 ≤ k) (hs : ∀ x ∈ s, 0 ≤ x ∧ x < k) (hp : l.Perm (fstL s)) (hn : 0 < s.length) (q0 : 0 ≤ q) (hq : q < s.length) (hD : D = clrP s (itL s k l s.length).1 q) : rd D q = -1 ∨ (0 ≤ rd D q ∧ rd D q < s.length) := by
 rw [hD, rd_clrP q0 (Int.le_refl _) q0 (by rw [itL_len hk hs hp hn]; omega)]
 exact clr_mem hk hs hp hn q0 hq
theorem clr_done {s l D : List Int} {k q : Int} (hk : 0 ≤ k) (hs : ∀ x ∈ s, 0 ≤ x ∧ x < k) (hp : l.Perm (fstL s)) (hn : 0 < s.length) (hq : (s.length : Int) ≤ q) (hD : D = clrP s (itL s k l s.length).1 q) : D = (itS s k l 0).1 := by
 rw [hD, clrP_all (by rw [itL_len hk hs hp hn]; exact hq)]
 rfl
set_option maxRecDepth 100000 in
theorem smalls_ct {B : Nat} {w0 : World} {R : List Row} {g_x : Nat} {A_s A_m A_c A_r : Option Addr} {c_s c_m c_c c_r : Nat} {s l : List Int} {k : Int} (h_x : RdC B w0 R (some ⟨g_x, 0, none⟩) 1 1 4 [.slice A_s s.length c_s, .slice A_m s.length c_m, .slice A_c k.toNat c_c, .slice A_r s.length c_r]) (h_s : RdC B w0 R A_s s.length c_s 1 (ints .i64 s)) (h_m : RdC B w0 R A_m s.length c_m 1 (bools (smL s))) (h_c : RdC B w0 R A_c k.toNat c_c 1 (ints .i64 (cntV s k))) (hk : 0 ≤ k ∧ k ≤ 1048576) (hs : ∀ x ∈ s, 0 ≤ x ∧ x < k) (hN : s.length ≤ 1000000) (hp : l.Perm (fstL s)) (hn : 0 < s.length) :
  Ct Tryz.prog 166 #[.pointer (some ⟨g_x, 0, none⟩)] B w0 (⟨3, 1, A_r, s.length, c_r, ints .i64 ((itL s k l s.length).1), false⟩ :: R) (fun v R' => v = .tuple #[] ∧ R' = ⟨3, 1, A_r, s.length, c_r, ints .i64 (indS s k l), false⟩ :: R) := by
 refine fn0 Tryz.func166 rfl rfl rfl ?_
 have hLl := itL_len hk.1 hs hp hn
 refine w_seq <| wq <| wm rfl rfl <| wr_y rfl (y_nilCheck rfl) <| wr_y rfl (y_fieldAt (off := 3) (m := 3) underlying187 rfl sz24 rfl rfl rfl) <| wr_y rfl (y_ldIn (RdC.right h_x [_]) underlying24 rfl rfl rfl) <| wr_y rfl (y_len underlying24 rfl) <| wm rfl rfl <| wr_nil <| w_block ?_
 refine w_loop2 (fun (q : Int) (D : List Int) => [(0, .pointer (some ⟨g_x, 0, none⟩)), (10, .slice A_r s.length c_r), (11, .int .i64 ((s.length : Nat) : Int)), (12, .int .i64 q)]) (fun (q : Int) (D : List Int) => (⟨3, 1, A_r, s.length, c_r, ints .i64 D, false⟩ :: R)) (fun (q : Int) (D : List Int) => (0 ≤ q) ∧ (q ≤ s.length) ∧ (D = clrP s (itL s k l s.length).1 q)) (fun (q : Int) (D : List Int) => (s.length - q).toNat) ?_ ?_
 ·
  exact ⟨0, (itL s k l s.length).1, ⟨(by omega), (by omega), (clrP_zero.symm)⟩, (sc rfl (sc rfl (sc rfl (sc rfl Sub.nil)))), fun _ h => h⟩
 intro q D ⟨hq0, hq1, hD⟩
 refine wq <| wL rfl rfl rfl <| wr_nil <| w_seq <| w_if rfl (fun hc1 => ?_) (fun hc1 => ?_)
 ·
  have hf1 := clr_ent hk.1 hs hp hn hq0 (by omega) hD
  have hDl : D.length = s.length := by rw [hD, clrP_len, itL_len hk.1 hs hp hn]
  refine w_skip <| w_seq <| w_block <| wq <| wm rfl rfl <| wr_y rfl (y_index1 underlying24 sz3 rfl rfl (rdr 0 rfl) (by omega) (by omega)) <| wr_y rfl (y_ldI underlying3 rfl rfl (rdr 0 rfl) (by omega) (by omega)) <| wg rfl rfl <| wg rfl rfl <| wr_nil <| wq <| wm rfl rfl <| wr_y rfl (y_ge rfl rfl) ?_
  refine wm rfl rfl <| wr_mid 8 [(0, .pointer (some ⟨g_x, 0, none⟩)), (2, .int .i64 q), (10, .slice A_r s.length c_r), (11, .int .i64 ((s.length : Nat) : Int)), (12, .int .i64 q), (27, .bool (decide ((0 ≤ (rd D q)) ∧ (rdb (smL s) (rd D q) = true))))] (⟨3, 1, A_r, s.length, c_r, ints .i64 D, false⟩ :: R) ?_ ?_
  ·
   refine wr_case 19 rfl (fun hc2 => ?_) (fun hc2 => ?_)
   ·
    refine wr_yes rfl rfl <| wm rfl rfl <| wr_yes rfl rfl <| wr_y rfl (y_nilCheck rfl) <| wr_yes rfl rfl <| wr_y rfl (y_fieldAt (off := 1) (m := 1) underlying187 rfl sz101 rfl rfl rfl) <| wr_yes rfl rfl <| wr_y rfl (y_ldIn (RdC.right h_x [_]) underlying101 rfl rfl rfl) <| wr_yes rfl rfl <| wm rfl rfl <| wr_yes rfl rfl <| wr_y rfl (y_index1 underlying101 sz4 rfl rfl (RdC.right h_m [_]) (by omega) (by omega)) <| wr_yes rfl rfl <| wr_y rfl (y_ldB underlying4 rfl rfl (RdC.right h_m [_]) (by omega) (by omega)) <| wr_y rfl (y_pickT rfl rfl) ?_
    refine wr_nil ?_
    exact ⟨(sc rfl (sc rfl (sc rfl (sc rfl (sc rfl (Sub.to rfl (mb (by first | omega | exact ⟨fun h => ⟨(by assumption), h⟩, fun h => h.2⟩ | exact .inl (by assumption) | exact ⟨.inr, fun h => h.resolve_left (by assumption)⟩ | exact ⟨fun h => h.resolve_left (by assumption), .inr⟩ | simp [*])) Sub.nil)))))), fun _ h => h⟩
   ·
    refine wr_no rfl rfl rfl rfl <| wr_no rfl rfl rfl rfl <| wr_no rfl rfl rfl rfl <| wr_no rfl rfl rfl rfl <| wr_no rfl rfl rfl rfl <| wr_no rfl rfl rfl rfl <| wr_no rfl rfl rfl rfl <| wr_y rfl (y_pickF rfl rfl) <| wr_nil ?_
    exact ⟨(sc rfl (sc rfl (sc rfl (sc rfl (sc rfl (Sub.to rfl (mb_f (by first | omega | exact ⟨fun h => ⟨(by assumption), h⟩, fun h => h.2⟩ | exact .inl (by assumption) | exact ⟨.inr, fun h => h.resolve_left (by assumption)⟩ | exact ⟨fun h => h.resolve_left (by assumption), .inr⟩ | simp [*])) Sub.nil)))))), fun _ h => h⟩
  refine wr_nil <| w_if rfl (fun hc3 => ?_) (fun hc3 => ?_)
  ·
   refine w_reg <| wm rfl rfl <| wr_y rfl (y_nilCheck rfl) <| wr_y rfl (y_fieldAt (off := 3) (m := 3) underlying187 rfl sz24 rfl rfl rfl) <| wr_y rfl (y_ldIn (RdC.right h_x [_]) underlying24 rfl rfl rfl) <| wm rfl rfl <| wr_y rfl (y_index1 underlying24 sz3 rfl rfl (rdr 0 rfl) (by omega) (by omega)) <| wr_n (a_storeI 0 rfl sz3 rfl rfl (by omega) (by omega)) ?_
   rintro _ _ rfl
   refine wr_rows (R1 := (⟨3, 1, A_r, s.length, c_r, ints .i64 (upd D q (-1)), false⟩ :: R)) rfl <| wr_nil <| w_reg <| wA rfl rfl rfl (by omega) <| wm rfl rfl <| wr_nil ?_
   exact ⟨q + 1, upd D q (-1), ⟨(by omega), (by omega), (by rw [hD]; exact clr_yes hq0 (by omega) (by rw [← hD]; exact (cl_C hf1).1 hc3))⟩, (by omega), (sc rfl (sc rfl (sc rfl (sc rfl Sub.nil)))), fun _ h => h⟩
  ·
   refine w_skip <| w_reg <| wA rfl rfl rfl (by omega) <| wm rfl rfl <| wr_nil ?_
   exact ⟨q + 1, D, ⟨(by omega), (by omega), (by rw [hD]; exact clr_no hq0 (by omega) (by rw [← hD]; exact fun h => hc3 ((cl_C hf1).2 h)))⟩, (by omega), (sc rfl (sc rfl (sc rfl (sc rfl Sub.nil)))), fun _ h => h⟩
 ·
  have hD0 := clr_done hk.1 hs hp hn (by omega) hD
  refine w_exit <| wq <| wm rfl rfl <| wr_a rfl (a_callF en163 rfl (ends_ct (RdC.right h_x [_]) (RdC.right h_c [_]) hk hs hN)) ?_
  rintro _ _ ⟨A_1, c_2, rfl, rfl⟩
  refine wg rfl rfl <| wr_nil <| wq <| wm rfl rfl <| wr_y rfl (y_nilCheck rfl) <| wr_y rfl (y_fieldAt (off := 3) (m := 3) underlying187 rfl sz24 rfl rfl rfl) <| wr_y rfl (y_ldIn (RdC.right h_x [_, _]) underlying24 rfl rfl rfl) <| wr_y rfl (y_len underlying24 rfl) <| wS rfl rfl rfl (by omega) <| wg rfl rfl <| wr_nil <| w_block ?_
  refine w_loop3 (fun (i : Int) (D : List Int) (H : List Int) => [(0, .pointer (some ⟨g_x, 0, none⟩)), (4, .slice A_1 k.toNat c_2), (5, .int .i64 i)]) (fun (i : Int) (D : List Int) (H : List Int) => (⟨3, 1, A_1, k.toNat, c_2, ints .i64 H, false⟩ :: ⟨3, 1, A_r, s.length, c_r, ints .i64 D, false⟩ :: R)) (fun (i : Int) (D : List Int) (H : List Int) => (-1 ≤ i) ∧ (i < s.length) ∧ (D = (itS s k l (s.length - 1 - i).toNat).1) ∧ (H = (itS s k l (s.length - 1 - i).toNat).2)) (fun (i : Int) (D : List Int) (H : List Int) => (i + 1).toNat) ?_ ?_
  ·
   exact ⟨((s.length : Nat) : Int) - 1, D, endsV (cntV s k), ⟨(by omega), (by omega), (by rw [show ((s.length : Int) - 1 - (((s.length : Nat) : Int) - 1)).toNat = 0 by omega]; exact hD0), (by rw [show ((s.length : Int) - 1 - (((s.length : Nat) : Int) - 1)).toNat = 0 by omega]; rfl)⟩, (sc rfl (sc rfl (sc rfl Sub.nil))), fun _ h => h⟩
  intro i D H ⟨hi0, hi1, hD, hH⟩
  refine w_seq <| wq <| wm rfl rfl <| wr_y rfl (y_ge rfl rfl) <| wr_nil <| w_if rfl (fun hc4 => ?_) (fun hc4 => ?_)
  ·
   have hf := fSeZ hk.1 hs hp hn (by omega) (by omega) hD hH
   have hf1 := hf.1
   refine w_skip <| w_seq <| w_block <| wq <| wm rfl rfl <| wr_y rfl (y_nilCheck rfl) <| wr_y rfl (y_fieldAt (off := 3) (m := 3) underlying187 rfl sz24 rfl rfl rfl) <| wr_y rfl (y_ldIn (RdC.right h_x [_, _]) underlying24 rfl rfl rfl) <| wm rfl rfl <| wr_y rfl (y_index1 underlying24 sz3 rfl rfl (rdr 1 rfl) (by omega) (by omega)) <| wr_y rfl (y_ldI underlying3 rfl rfl (rdr 1 rfl) (by omega) (by omega)) <| wg rfl rfl <| wr_nil <| w_seq ?_
   refine w_reg <| wm rfl rfl <| wr_y rfl (y_gt rfl rfl) <| wm rfl rfl <| wr_mid 9 [(0, .pointer (some ⟨g_x, 0, none⟩)), (4, .slice A_1 k.toNat c_2), (5, .int .i64 i), (6, .int .i64 (rd D i)), (65, .bool (decide ((0 < (rd D i)) ∧ (rdb (smL s) ((rd D i) - 1) = true))))] (⟨3, 1, A_1, k.toNat, c_2, ints .i64 H, false⟩ :: ⟨3, 1, A_r, s.length, c_r, ints .i64 D, false⟩ :: R) ?_ ?_
   ·
    refine wr_case 56 rfl (fun hc5 => ?_) (fun hc5 => ?_)
    ·
     refine wr_yes rfl rfl <| wm rfl rfl <| wr_yes rfl rfl <| wr_y rfl (y_nilCheck rfl) <| wr_yes rfl rfl <| wr_y rfl (y_fieldAt (off := 1) (m := 1) underlying187 rfl sz101 rfl rfl rfl) <| wr_yes rfl rfl <| wr_y rfl (y_ldIn (RdC.right h_x [_, _]) underlying101 rfl rfl rfl) <| wr_yes rfl rfl <| wm rfl rfl <| wr_yes rfl rfl <| wS rfl rfl rfl (by omega) <| wr_yes rfl rfl <| wr_y rfl (y_index1 underlying101 sz4 rfl rfl (RdC.right h_m [_, _]) (by omega) (by omega)) <| wr_yes rfl rfl ?_
     refine wr_y rfl (y_ldB underlying4 rfl rfl (RdC.right h_m [_, _]) (by omega) (by omega)) <| wr_y rfl (y_pickT rfl rfl) <| wr_nil ?_
     exact ⟨(sc rfl (sc rfl (sc rfl (sc rfl (Sub.to rfl (mb (by first | omega | exact ⟨fun h => ⟨(by assumption), h⟩, fun h => h.2⟩ | exact .inl (by assumption) | exact ⟨.inr, fun h => h.resolve_left (by assumption)⟩ | exact ⟨fun h => h.resolve_left (by assumption), .inr⟩ | simp [*])) Sub.nil))))), fun _ h => h⟩
    ·
     refine wr_no rfl rfl rfl rfl <| wr_no rfl rfl rfl rfl <| wr_no rfl rfl rfl rfl <| wr_no rfl rfl rfl rfl <| wr_no rfl rfl rfl rfl <| wr_no rfl rfl rfl rfl <| wr_no rfl rfl rfl rfl <| wr_no rfl rfl rfl rfl <| wr_y rfl (y_pickF rfl rfl) <| wr_nil ?_
     exact ⟨(sc rfl (sc rfl (sc rfl (sc rfl (Sub.to rfl (mb_f (by first | omega | exact ⟨fun h => ⟨(by assumption), h⟩, fun h => h.2⟩ | exact .inl (by assumption) | exact ⟨.inr, fun h => h.resolve_left (by assumption)⟩ | exact ⟨fun h => h.resolve_left (by assumption), .inr⟩ | simp [*])) Sub.nil))))), fun _ h => h⟩
   refine wr_nil <| w_if rfl (fun hc6 => ?_) (fun hc6 => ?_)
   ·
    obtain ⟨g1, g2, g3, g4, g5⟩ := fSZ hk.1 hs hp hn (by omega) (by omega) hD hH hc6
    refine w_reg <| wm rfl rfl <| wm rfl rfl <| wm rfl rfl <| wS rfl rfl rfl (by omega) <| wr_sub (R1 := (⟨3, 1, A_r, s.length, c_r, ints .i64 D, false⟩ :: ⟨3, 1, A_1, k.toNat, c_2, ints .i64 H, false⟩ :: R)) (Sub.refl _) (fun _ h => h.selR (F := [_, _]) (F' := [_, _]) [1, 0] (by decide) rfl) <| wr_a rfl (a_callF en164 rfl (lay_ct (row := D) (E := H) (j := ((rd D i) - 1)) (RdC.right h_x []) (RdC.right h_s []) hk hN ⟨by omega, by omega⟩ g2 ⟨hf.2.1, hf.2.2, rfl⟩ g3)) ?_
    rintro _ _ ⟨rfl, rfl⟩
    refine wr_rows (R1 := (⟨3, 1, A_r, s.length, c_r, ints .i64 (upd D ((rd H (rd s ((rd D i) - 1))) - 1) ((rd D i) - 1)), false⟩ :: ⟨3, 1, A_1, k.toNat, c_2, ints .i64 (upd H (rd s ((rd D i) - 1)) ((rd H (rd s ((rd D i) - 1))) - 1)), false⟩ :: R)) rfl <| wr_nil <| w_reg <| wm rfl rfl <| wS rfl rfl rfl (by omega) <| wg rfl rfl <| wr_nil ?_
    exact ⟨i - 1, upd D ((rd H (rd s ((rd D i) - 1))) - 1) ((rd D i) - 1), upd H (rd s ((rd D i) - 1)) ((rd H (rd s ((rd D i) - 1))) - 1), ⟨(by omega), (by omega), (g4), (g5)⟩, (by omega), (sc rfl (sc rfl (sc rfl Sub.nil))), fun _ h => h.selR (F := [_, _]) (F' := [_, _]) [1, 0] (by decide) rfl⟩
   ·
    have g4 := fSsZ hk.1 hs hp hn (by omega) (by omega) hD hH hc6
    refine w_skip <| w_reg <| wm rfl rfl <| wS rfl rfl rfl (by omega) <| wg rfl rfl <| wr_nil ?_
    exact ⟨i - 1, D, H, ⟨(by omega), (by omega), (g4.1), (g4.2)⟩, (by omega), (sc rfl (sc rfl (sc rfl Sub.nil))), fun _ h => h⟩
  ·
   refine w_sub (R1 := (⟨3, 1, A_r, s.length, c_r, ints .i64 D, false⟩ :: R)) (Sub.refl _) (fun _ h => h.selR (F := [_, _]) (F' := [_]) [1] (by decide) rfl) ?_
   have hie : ((s.length : Int) - 1 - i).toNat = s.length := by omega
   rw [hie] at hD
   subst hD
   refine w_exit ?_
   exact ⟨rfl, rfl⟩

theorem fstL_sorted (s : List Int) : (fstL s).Pairwise (· ≤ ·) := by
 unfold fstL iota
 exact ((List.pairwise_map.2 (List.pairwise_lt_range.imp fun h => by omega)).sublist List.filter_sublist)
theorem sortL_fst {s l : List Int} : sortL l = fstL s ↔ l.Perm (fstL s) := by
 constructor
 ·intro h
  rw [← h]
  exact (sortL_perm l).symm
 ·intro h
  exact ((sortL_perm l).trans h).eq_of_pairwise (fun a b _ _ h1 h2 => Int.le_antisymm h1 h2) (sortL_sorted l) (fstL_sorted s)
theorem fFZ {s l D H : List Int} {k : Int} (hk : 0 ≤ k) (hs : ∀ x ∈ s, 0 ≤ x ∧ x < k) (hp : l.Perm (fstL s)) {m : Nat} (hm : m < l.length) (hr : D = (itF s k (l.drop (l.length - m))).1) (hE : H = (itF s k (l.drop (l.length - m))).2) :
  (0 ≤ rd l ((l.length - 1 - m : Nat) : Int) ∧ rd l ((l.length - 1 - m : Nat) : Int) < s.length) ∧ (0 ≤ rd s (rd l ((l.length - 1 - m : Nat) : Int)) ∧ rd s (rd l ((l.length - 1 - m : Nat) : Int)) < k) ∧ (0 ≤ rd H (rd s (rd l ((l.length - 1 - m : Nat) : Int))) - 1 ∧ rd H (rd s (rd l ((l.length - 1 - m : Nat) : Int))) - 1 < s.length) ∧ (D.length = s.length ∧ H.length = k.toNat) ∧
  upd D (rd H (rd s (rd l ((l.length - 1 - m : Nat) : Int))) - 1) (rd l ((l.length - 1 - m : Nat) : Int)) = (itF s k (l.drop (l.length - (m + 1)))).1 ∧ upd H (rd s (rd l ((l.length - 1 - m : Nat) : Int))) (rd H (rd s (rd l ((l.length - 1 - m : Nat) : Int))) - 1) = (itF s k (l.drop (l.length - (m + 1)))).2 := by
 have e : l.length - 1 - m + 1 = l.length - m := by omega
 have h := fF (row := D) (E := H) hk hs hp (m := l.length - 1 - m) (by omega) (by rw [e]; exact hr) (by rw [e]; exact hE)
 rwa [show l.length - (m + 1) = l.length - 1 - m by omega]
theorem fst_len_le {s l : List Int} (hp : l.Perm (fstL s)) : l.length ≤ s.length := by rw [hp.length_eq]; exact fstL_len
set_option maxRecDepth 100000 in
set_option maxHeartbeats 2000000 in
theorem sort_ct {w : World} {A_s : Option Addr} {n_s c_s : Nat} {s : List Int} {k : Int} {A_l : Option Addr} {n_l c_l : Nat} {l : List Int} (h_s : Rd w A_s n_s c_s 1 (ints .i64 s)) (h_l : Rd w A_l n_l c_l 1 (ints .i64 l)) (hok : (0 ≤ k ∧ k ≤ 1048576) ∧ ∀ x ∈ s, 0 ≤ x ∧ x < k) (hp : l.Perm (fstL s)) (hN : s.length ≤ 1000000) :
  Ct Tryz.prog 149 #[.slice A_s n_s c_s, .int .i64 k, .slice A_l n_l c_l] w.heap.size w [] (fun v R' => ∃ A c, v = .tuple #[.slice A s.length c, .bool true] ∧ R' = [⟨3, 1, A, s.length, c, ints .i64 (indS s k l), false⟩]) := by
 obtain rfl := h_s.lenI
 obtain rfl := h_l.lenI
 refine fnV Tryz.func149 rfl rfl ?_
 have m_s := h_s.max
 have m_l := h_l.max
 have hk := hok.1
 have hs := hok.2
 have hll := fst_len_le hp
 have hcl : (cntV s k).length = k.toNat := cntV_len _ _
 refine v_seqW ?_
 refine w_reg <| wg rfl rfl <| wg rfl rfl <| wr_nil ?_
 refine v_seqW ?_
 refine w_reg <| wm rfl rfl <| wm rfl rfl <| wr_a rfl (a_callF en94 rfl (Ct.fresh (fun w hw => countsOk_ct ((h_s.c _) w hw) (by first | assumption | omega | decide)))) ?_
 rintro _ _ ⟨_, rfl, A_1, c_2, rfl, rfl⟩
 refine wm rfl rfl <| wX rfl rfl rfl <| wX rfl rfl rfl <| wg rfl rfl <| wg rfl rfl <| wr_nil ?_
 refine v_seqW ?_
 refine w_reg <| wm rfl rfl <| wr_a rfl (a_callF en161 rfl (values_ct)) ?_
 rintro _ _ ⟨g_3, rfl, rfl⟩
 refine wr_a rfl (a_callF en160 rfl (Ct.fresh (fun w hw => sorted_ct ((h_l.c _) w hw) ((rdR 0 (r := ⟨24, 1, (some ⟨g_3, 0, none⟩), 1, 1, [.slice A_l l.length c_l], false⟩) rfl) w hw) (by omega)))) ?_
 rintro _ _ ⟨_, rfl, A_5, c_6, rfl, rfl⟩
 refine wg rfl rfl <| wr_nil ?_
 refine v_seqW ?_
 refine wq <| wm rfl rfl <| wr_y rfl (y_not rfl) <| wm rfl rfl <| wr_yes rfl rfl <| wm rfl rfl <| wr_yes rfl rfl <| wm rfl rfl <| wr_yes rfl rfl <| wr_a rfl (a_callF en148 rfl (Ct.fresh (fun w hw => first_ct ((h_s.c _) w hw) (by first | assumption | omega | decide)))) ?_
 rintro _ _ ⟨_, rfl, A_8, c_9, rfl, rfl⟩
 refine wr_yes rfl rfl <| wr_a rfl (a_callF en51 rfl (Ct.quiet (fun w hw => equalI_ct ((rdr 1 rfl) w hw) ((rdr 0 rfl) w hw) (by rw [(sortL_perm l).length_eq]; omega)))) ?_
 rintro _ _ ⟨rfl, rfl⟩
 refine wr_setT 30 rfl (sortL_fst.2 hp) <| wr_yes rfl rfl <| wr_y rfl (y_not rfl) <| wr_y rfl (y_pickF rfl rfl) <| wr_nil <| w_false rfl <| w_skip ?_
 refine v_seqW ?_
 refine wq <| wm rfl rfl <| wr_y rfl (y_len underlying24 rfl) <| wr_y rfl (y_eq rfl rfl) <| wr_nil <| w_if rfl (fun hc1 => ?_) (fun hc1 => ?_)
 ·
  refine wq <| wr_a rfl (a_litI .i64 [] underlying24 zs3 rfl rfl rfl) ?_
  rintro _ _ ⟨g_12, rfl, rfl⟩
  refine wg rfl rfl <| wg rfl rfl <| wr_nil <| w_retR (R1 := [⟨3, 1, (some ⟨g_12, 0, none⟩), 0, 0, ints .i64 ([]), false⟩]) (fun _ h => h.sel [0] (by decide) rfl) ?_
  refine fin2 rfl Gd.refl ⟨_, _, rfl, rfl, ?_⟩
  have e : s = [] := List.eq_nil_of_length_eq_zero (by omega)
  subst e
  rw [indS_nil hp]
  exact ⟨_, _, rfl, rfl⟩
 ·
  have hn : 0 < s.length := by omega
  refine w_skip ?_
  refine v_seqW ?_
  refine w_reg <| wm rfl rfl <| wm rfl rfl <| wr_a rfl (a_callF en159 rfl (Ct.fresh (fun w hw => small_ct ((h_s.c _) w hw) (by first | assumption | omega | decide)))) ?_
  rintro _ _ ⟨_, rfl, A_13, c_14, rfl, rfl⟩
  refine wm rfl rfl <| wr_a rfl (a_litI .i64 [-1] underlying24 zs3 rfl rfl rfl) ?_
  rintro _ _ ⟨g_16, rfl, rfl⟩
  refine wm rfl rfl <| wr_y rfl (y_len underlying24 rfl) <| wr_a rfl (a_callF en162 rfl (Ct.fresh (fun w hw => repeatI_ct ((rdr 0 rfl) w hw) rfl rfl ⟨by omega, by omega⟩))) ?_
  rintro _ _ ⟨_, rfl, A_17, c_18, rfl, rfl⟩
  refine wr_y rfl (y_build (v := .agg #[.slice A_s s.length c_s, .slice A_13 s.length c_14, .slice A_1 ((k).toNat) c_2, .slice A_17 s.length c_18]) rfl (fun w => by kernel_rfl)) <| wr_a rfl (a_box (sz := 4) rfl rfl) ?_
  rintro _ _ ⟨g_19, rfl, rfl⟩
  refine wr_rows (R1 := [⟨187, 4, (some ⟨g_19, 0, none⟩), 1, 1, [.slice A_s s.length c_s, .slice A_13 s.length c_14, .slice A_1 ((k).toNat) c_2, .slice A_17 s.length c_18], false⟩, ⟨3, 1, A_17, s.length, c_18, ints .i64 (List.replicate s.length ((-1) : Int)), false⟩, ⟨3, 1, (some ⟨g_16, 0, none⟩), 1, 1, ints .i64 ([-1]), false⟩, ⟨4, 1, A_13, s.length, c_14, bools (smL s), false⟩, ⟨3, 1, A_8, (fstL s).length, c_9, ints .i64 (fstL s), false⟩, ⟨3, 1, A_5, (sortL l).length, c_6, ints .i64 (sortL l), false⟩, ⟨24, 1, (some ⟨g_3, 0, none⟩), 1, 1, [.slice A_l l.length c_l], false⟩, ⟨3, 1, A_1, ((k).toNat), c_2, ints .i64 (cntV s k), false⟩]) rfl <| wr_a rfl (a_alloc (sz := 1) zz185 rfl) ?_
  rintro _ _ ⟨g_21, rfl, rfl⟩
  refine wr_rows (R1 := [⟨185, 1, (some ⟨g_21, 0, none⟩), 1, 1, [.pointer none], false⟩, ⟨187, 4, (some ⟨g_19, 0, none⟩), 1, 1, [.slice A_s s.length c_s, .slice A_13 s.length c_14, .slice A_1 ((k).toNat) c_2, .slice A_17 s.length c_18], false⟩, ⟨3, 1, A_17, s.length, c_18, ints .i64 (List.replicate s.length ((-1) : Int)), false⟩, ⟨3, 1, (some ⟨g_16, 0, none⟩), 1, 1, ints .i64 ([-1]), false⟩, ⟨4, 1, A_13, s.length, c_14, bools (smL s), false⟩, ⟨3, 1, A_8, (fstL s).length, c_9, ints .i64 (fstL s), false⟩, ⟨3, 1, A_5, (sortL l).length, c_6, ints .i64 (sortL l), false⟩, ⟨24, 1, (some ⟨g_3, 0, none⟩), 1, 1, [.slice A_l l.length c_l], false⟩, ⟨3, 1, A_1, ((k).toNat), c_2, ints .i64 (cntV s k), false⟩]) rfl <| wr_n (a_storeAt 0 rfl rfl rfl sz185 rfl rfl rfl rfl (Nat.le_of_ble_eq_true rfl)) ?_
  rintro _ _ rfl
  refine wr_rows (R1 := [⟨185, 1, (some ⟨g_21, 0, none⟩), 1, 1, [.pointer (some ⟨g_19, 0, none⟩)], false⟩, ⟨187, 4, (some ⟨g_19, 0, none⟩), 1, 1, [.slice A_s s.length c_s, .slice A_13 s.length c_14, .slice A_1 ((k).toNat) c_2, .slice A_17 s.length c_18], false⟩, ⟨3, 1, A_17, s.length, c_18, ints .i64 (List.replicate s.length ((-1) : Int)), false⟩, ⟨3, 1, (some ⟨g_16, 0, none⟩), 1, 1, ints .i64 ([-1]), false⟩, ⟨4, 1, A_13, s.length, c_14, bools (smL s), false⟩, ⟨3, 1, A_8, (fstL s).length, c_9, ints .i64 (fstL s), false⟩, ⟨3, 1, A_5, (sortL l).length, c_6, ints .i64 (sortL l), false⟩, ⟨24, 1, (some ⟨g_3, 0, none⟩), 1, 1, [.slice A_l l.length c_l], false⟩, ⟨3, 1, A_1, ((k).toNat), c_2, ints .i64 (cntV s k), false⟩]) rfl <| wr_nil ?_
  refine v_seqW ?_
  refine w_reg <| wr_y rfl (y_ldIn (rdR 0 (r := ⟨185, 1, (some ⟨g_21, 0, none⟩), 1, 1, [.pointer (some ⟨g_19, 0, none⟩)], false⟩) rfl) underlying185 rfl rfl rfl) <| wr_a rfl (a_callF en163 rfl (ends_ct (rdR 1 (r := ⟨187, 4, (some ⟨g_19, 0, none⟩), 1, 1, [.slice A_s s.length c_s, .slice A_13 s.length c_14, .slice A_1 ((k).toNat) c_2, .slice A_17 s.length c_18], false⟩) rfl) (rdr 8 rfl) hk hs hN)) ?_
  rintro _ _ ⟨A_22, c_23, rfl, rfl⟩
  refine wr_a rfl (a_alloc (sz := 1) zz24 rfl) ?_
  rintro _ _ ⟨g_25, rfl, rfl⟩
  refine wr_rows (R1 := [⟨24, 1, (some ⟨g_25, 0, none⟩), 1, 1, [.slice none 0 0], false⟩, ⟨3, 1, A_22, k.toNat, c_23, ints .i64 (endsV (cntV s k)), false⟩, ⟨185, 1, (some ⟨g_21, 0, none⟩), 1, 1, [.pointer (some ⟨g_19, 0, none⟩)], false⟩, ⟨187, 4, (some ⟨g_19, 0, none⟩), 1, 1, [.slice A_s s.length c_s, .slice A_13 s.length c_14, .slice A_1 ((k).toNat) c_2, .slice A_17 s.length c_18], false⟩, ⟨3, 1, A_17, s.length, c_18, ints .i64 (List.replicate s.length ((-1) : Int)), false⟩, ⟨3, 1, (some ⟨g_16, 0, none⟩), 1, 1, ints .i64 ([-1]), false⟩, ⟨4, 1, A_13, s.length, c_14, bools (smL s), false⟩, ⟨3, 1, A_8, (fstL s).length, c_9, ints .i64 (fstL s), false⟩, ⟨3, 1, A_5, (sortL l).length, c_6, ints .i64 (sortL l), false⟩, ⟨24, 1, (some ⟨g_3, 0, none⟩), 1, 1, [.slice A_l l.length c_l], false⟩, ⟨3, 1, A_1, ((k).toNat), c_2, ints .i64 (cntV s k), false⟩]) rfl <| wr_n (a_storeAt 0 rfl rfl rfl sz24 rfl rfl rfl rfl (Nat.le_of_ble_eq_true rfl)) ?_
  rintro _ _ rfl
  refine wr_rows (R1 := [⟨24, 1, (some ⟨g_25, 0, none⟩), 1, 1, [.slice A_22 k.toNat c_23], false⟩, ⟨3, 1, A_22, k.toNat, c_23, ints .i64 (endsV (cntV s k)), false⟩, ⟨185, 1, (some ⟨g_21, 0, none⟩), 1, 1, [.pointer (some ⟨g_19, 0, none⟩)], false⟩, ⟨187, 4, (some ⟨g_19, 0, none⟩), 1, 1, [.slice A_s s.length c_s, .slice A_13 s.length c_14, .slice A_1 ((k).toNat) c_2, .slice A_17 s.length c_18], false⟩, ⟨3, 1, A_17, s.length, c_18, ints .i64 (List.replicate s.length ((-1) : Int)), false⟩, ⟨3, 1, (some ⟨g_16, 0, none⟩), 1, 1, ints .i64 ([-1]), false⟩, ⟨4, 1, A_13, s.length, c_14, bools (smL s), false⟩, ⟨3, 1, A_8, (fstL s).length, c_9, ints .i64 (fstL s), false⟩, ⟨3, 1, A_5, (sortL l).length, c_6, ints .i64 (sortL l), false⟩, ⟨24, 1, (some ⟨g_3, 0, none⟩), 1, 1, [.slice A_l l.length c_l], false⟩, ⟨3, 1, A_1, ((k).toNat), c_2, ints .i64 (cntV s k), false⟩]) rfl <| wr_nil ?_
  refine v_seq ?_
  refine v_seqW ?_
  refine w_reg <| wm rfl rfl <| wr_a rfl (a_callF en39 rfl (backward_ct)) ?_
  rintro _ _ ⟨g_26, rfl, rfl⟩
  refine wr_nil ?_
  refine v_block ?_
  refine v_range2 rfl en68 (back0_ints (A := A_l) (c := c_l) (zs := l) (by omega)) rfl (fun _ => rfl) Gd.refl (fun (kr : Nat) (D : List Int) (H : List Int) => [⟨24, 1, (some ⟨g_26, 0, none⟩), 1, 1, [.slice A_l l.length c_l], false⟩, ⟨24, 1, (some ⟨g_25, 0, none⟩), 1, 1, [.slice A_22 k.toNat c_23], false⟩, ⟨3, 1, A_22, k.toNat, c_23, ints .i64 H, false⟩, ⟨185, 1, (some ⟨g_21, 0, none⟩), 1, 1, [.pointer (some ⟨g_19, 0, none⟩)], false⟩, ⟨187, 4, (some ⟨g_19, 0, none⟩), 1, 1, [.slice A_s s.length c_s, .slice A_13 s.length c_14, .slice A_1 ((k).toNat) c_2, .slice A_17 s.length c_18], false⟩, ⟨3, 1, A_17, s.length, c_18, ints .i64 D, false⟩, ⟨3, 1, (some ⟨g_16, 0, none⟩), 1, 1, ints .i64 ([-1]), false⟩, ⟨4, 1, A_13, s.length, c_14, bools (smL s), false⟩, ⟨3, 1, A_8, (fstL s).length, c_9, ints .i64 (fstL s), false⟩, ⟨3, 1, A_5, (sortL l).length, c_6, ints .i64 (sortL l), false⟩, ⟨24, 1, (some ⟨g_3, 0, none⟩), 1, 1, [.slice A_l l.length c_l], false⟩, ⟨3, 1, A_1, ((k).toNat), c_2, ints .i64 (cntV s k), false⟩]) (fun (kr : Nat) (D : List Int) (H : List Int) => (D = (itF s k (l.drop (l.length - kr))).1) ∧ (H = (itF s k (l.drop (l.length - kr))).2)) ?_ ?_ ?_ ?_
  ·
   exact ⟨List.replicate s.length ((-1) : Int), endsV (cntV s k), ⟨(by rw [Nat.sub_zero, List.drop_length]; rfl), (by rw [Nat.sub_zero, List.drop_length]; rfl)⟩, fun _ h => h⟩
  ·
   intro kr D H w ⟨hD, hH⟩ hw
   exact ⟨(rdR 0 (r := ⟨24, 1, (some ⟨g_26, 0, none⟩), 1, 1, [.slice A_l l.length c_l], false⟩) rfl) w hw, (h_l.c _) w hw⟩
  ·
   intro lr kr D H WW2 hkr ⟨hD, hH⟩ hbW2
   obtain ⟨f1, f2, f3, f4, f5, f6⟩ := fFZ hk.1 hs hp hkr hD hH
   refine w_reg <| wg rfl rfl <| wr_nil ?_
   intro WW23 hbW23
   refine w_block <| w_reg <| wr_y rfl (y_ldIn (rdR 3 (r := ⟨185, 1, (some ⟨g_21, 0, none⟩), 1, 1, [.pointer (some ⟨g_19, 0, none⟩)], false⟩) rfl) underlying185 rfl rfl rfl) <| wr_y rfl (y_ldIn (rdR 1 (r := ⟨24, 1, (some ⟨g_25, 0, none⟩), 1, 1, [.slice A_22 k.toNat c_23], false⟩) rfl) underlying24 rfl rfl rfl) <| wm rfl rfl <| wr_sub (R1 := [⟨3, 1, A_17, s.length, c_18, ints .i64 D, false⟩, ⟨3, 1, A_22, k.toNat, c_23, ints .i64 H, false⟩, ⟨24, 1, (some ⟨g_26, 0, none⟩), 1, 1, [.slice A_l l.length c_l], false⟩, ⟨24, 1, (some ⟨g_25, 0, none⟩), 1, 1, [.slice A_22 k.toNat c_23], false⟩, ⟨185, 1, (some ⟨g_21, 0, none⟩), 1, 1, [.pointer (some ⟨g_19, 0, none⟩)], false⟩, ⟨187, 4, (some ⟨g_19, 0, none⟩), 1, 1, [.slice A_s s.length c_s, .slice A_13 s.length c_14, .slice A_1 ((k).toNat) c_2, .slice A_17 s.length c_18], false⟩, ⟨3, 1, (some ⟨g_16, 0, none⟩), 1, 1, ints .i64 ([-1]), false⟩, ⟨4, 1, A_13, s.length, c_14, bools (smL s), false⟩, ⟨3, 1, A_8, (fstL s).length, c_9, ints .i64 (fstL s), false⟩, ⟨3, 1, A_5, (sortL l).length, c_6, ints .i64 (sortL l), false⟩, ⟨24, 1, (some ⟨g_3, 0, none⟩), 1, 1, [.slice A_l l.length c_l], false⟩, ⟨3, 1, A_1, ((k).toNat), c_2, ints .i64 (cntV s k), false⟩]) (Sub.refl _) (fun _ h => h.sel [5, 2, 0, 1, 3, 4, 6, 7, 8, 9, 10, 11] (by decide) rfl) <| wr_a rfl (a_callF en164 rfl (lay_ct (row := D) (E := H) (j := (rd l ((l.length - 1 - kr : Nat) : Int))) (rdR 3 (r := ⟨187, 4, (some ⟨g_19, 0, none⟩), 1, 1, [.slice A_s s.length c_s, .slice A_13 s.length c_14, .slice A_1 ((k).toNat) c_2, .slice A_17 s.length c_18], false⟩) rfl) (h_s.cb hbW23 _) hk hN f1 f2 ⟨f4.1, f4.2, rfl⟩ f3)) ?_
   rintro _ _ ⟨rfl, rfl⟩
   refine wr_rows (R1 := [⟨3, 1, A_17, s.length, c_18, ints .i64 (upd D ((rd H (rd s (rd l ((l.length - 1 - kr : Nat) : Int)))) - 1) (rd l ((l.length - 1 - kr : Nat) : Int))), false⟩, ⟨3, 1, A_22, k.toNat, c_23, ints .i64 (upd H (rd s (rd l ((l.length - 1 - kr : Nat) : Int))) ((rd H (rd s (rd l ((l.length - 1 - kr : Nat) : Int)))) - 1)), false⟩, ⟨24, 1, (some ⟨g_26, 0, none⟩), 1, 1, [.slice A_l l.length c_l], false⟩, ⟨24, 1, (some ⟨g_25, 0, none⟩), 1, 1, [.slice A_22 k.toNat c_23], false⟩, ⟨185, 1, (some ⟨g_21, 0, none⟩), 1, 1, [.pointer (some ⟨g_19, 0, none⟩)], false⟩, ⟨187, 4, (some ⟨g_19, 0, none⟩), 1, 1, [.slice A_s s.length c_s, .slice A_13 s.length c_14, .slice A_1 ((k).toNat) c_2, .slice A_17 s.length c_18], false⟩, ⟨3, 1, (some ⟨g_16, 0, none⟩), 1, 1, ints .i64 ([-1]), false⟩, ⟨4, 1, A_13, s.length, c_14, bools (smL s), false⟩, ⟨3, 1, A_8, (fstL s).length, c_9, ints .i64 (fstL s), false⟩, ⟨3, 1, A_5, (sortL l).length, c_6, ints .i64 (sortL l), false⟩, ⟨24, 1, (some ⟨g_3, 0, none⟩), 1, 1, [.slice A_l l.length c_l], false⟩, ⟨3, 1, A_1, ((k).toNat), c_2, ints .i64 (cntV s k), false⟩]) rfl <| wr_nil ?_
   exact ⟨upd D ((rd H (rd s (rd l ((l.length - 1 - kr : Nat) : Int)))) - 1) (rd l ((l.length - 1 - kr : Nat) : Int)), upd H (rd s (rd l ((l.length - 1 - kr : Nat) : Int))) ((rd H (rd s (rd l ((l.length - 1 - kr : Nat) : Int)))) - 1), ⟨(f5), (f6)⟩, fun _ => fun _ h => h.sel [2, 3, 1, 4, 5, 0, 6, 7, 8, 9, 10, 11] (by decide) rfl⟩
  intro WW25 DW2 D H ⟨hD, hH⟩ hbW25 hGW25
  rw [Nat.sub_self, List.drop_zero] at hD
  refine v_goB ?_
  refine v_go ?_
  refine v_w ?_
  refine wq <| wr_y rfl (y_ldIn (rdR 3 (r := ⟨185, 1, (some ⟨g_21, 0, none⟩), 1, 1, [.pointer (some ⟨g_19, 0, none⟩)], false⟩) rfl) underlying185 rfl rfl rfl) <| wr_sub (R1 := [⟨3, 1, A_17, s.length, c_18, ints .i64 D, false⟩, ⟨24, 1, (some ⟨g_26, 0, none⟩), 1, 1, [.slice A_l l.length c_l], false⟩, ⟨24, 1, (some ⟨g_25, 0, none⟩), 1, 1, [.slice A_22 k.toNat c_23], false⟩, ⟨3, 1, A_22, k.toNat, c_23, ints .i64 H, false⟩, ⟨185, 1, (some ⟨g_21, 0, none⟩), 1, 1, [.pointer (some ⟨g_19, 0, none⟩)], false⟩, ⟨187, 4, (some ⟨g_19, 0, none⟩), 1, 1, [.slice A_s s.length c_s, .slice A_13 s.length c_14, .slice A_1 ((k).toNat) c_2, .slice A_17 s.length c_18], false⟩, ⟨3, 1, (some ⟨g_16, 0, none⟩), 1, 1, ints .i64 ([-1]), false⟩, ⟨4, 1, A_13, s.length, c_14, bools (smL s), false⟩, ⟨3, 1, A_8, (fstL s).length, c_9, ints .i64 (fstL s), false⟩, ⟨3, 1, A_5, (sortL l).length, c_6, ints .i64 (sortL l), false⟩, ⟨24, 1, (some ⟨g_3, 0, none⟩), 1, 1, [.slice A_l l.length c_l], false⟩, ⟨3, 1, A_1, ((k).toNat), c_2, ints .i64 (cntV s k), false⟩]) (Sub.refl _) (fun _ h => h.sel [5, 0, 1, 2, 3, 4, 6, 7, 8, 9, 10, 11] (by decide) rfl) <| wr_a rfl (a_callF en165 rfl (large_ct (row := D) (rdR 4 (r := ⟨187, 4, (some ⟨g_19, 0, none⟩), 1, 1, [.slice A_s s.length c_s, .slice A_13 s.length c_14, .slice A_1 ((k).toNat) c_2, .slice A_17 s.length c_18], false⟩) rfl) (h_s.cb hbW25 _) (rdr 6 rfl) (rdr 10 rfl) hk hs hN hp hn hD)) ?_
  rintro _ _ ⟨rfl, rfl⟩
  refine wr_rows (R1 := [⟨3, 1, A_17, s.length, c_18, ints .i64 ((itL s k l s.length).1), false⟩, ⟨24, 1, (some ⟨g_26, 0, none⟩), 1, 1, [.slice A_l l.length c_l], false⟩, ⟨24, 1, (some ⟨g_25, 0, none⟩), 1, 1, [.slice A_22 k.toNat c_23], false⟩, ⟨3, 1, A_22, k.toNat, c_23, ints .i64 H, false⟩, ⟨185, 1, (some ⟨g_21, 0, none⟩), 1, 1, [.pointer (some ⟨g_19, 0, none⟩)], false⟩, ⟨187, 4, (some ⟨g_19, 0, none⟩), 1, 1, [.slice A_s s.length c_s, .slice A_13 s.length c_14, .slice A_1 ((k).toNat) c_2, .slice A_17 s.length c_18], false⟩, ⟨3, 1, (some ⟨g_16, 0, none⟩), 1, 1, ints .i64 ([-1]), false⟩, ⟨4, 1, A_13, s.length, c_14, bools (smL s), false⟩, ⟨3, 1, A_8, (fstL s).length, c_9, ints .i64 (fstL s), false⟩, ⟨3, 1, A_5, (sortL l).length, c_6, ints .i64 (sortL l), false⟩, ⟨24, 1, (some ⟨g_3, 0, none⟩), 1, 1, [.slice A_l l.length c_l], false⟩, ⟨3, 1, A_1, ((k).toNat), c_2, ints .i64 (cntV s k), false⟩]) rfl <| wr_nil <| wq <| wr_y rfl (y_ldIn (rdR 4 (r := ⟨185, 1, (some ⟨g_21, 0, none⟩), 1, 1, [.pointer (some ⟨g_19, 0, none⟩)], false⟩) rfl) underlying185 rfl rfl rfl) <| wr_a rfl (a_callF en166 rfl (smalls_ct (rdR 4 (r := ⟨187, 4, (some ⟨g_19, 0, none⟩), 1, 1, [.slice A_s s.length c_s, .slice A_13 s.length c_14, .slice A_1 ((k).toNat) c_2, .slice A_17 s.length c_18], false⟩) rfl) (h_s.cb hbW25 _) (rdr 6 rfl) (rdr 10 rfl) hk hs hN hp hn)) ?_
  rintro _ _ ⟨rfl, rfl⟩
  refine wr_rows (R1 := [⟨3, 1, A_17, s.length, c_18, ints .i64 (indS s k l), false⟩, ⟨24, 1, (some ⟨g_26, 0, none⟩), 1, 1, [.slice A_l l.length c_l], false⟩, ⟨24, 1, (some ⟨g_25, 0, none⟩), 1, 1, [.slice A_22 k.toNat c_23], false⟩, ⟨3, 1, A_22, k.toNat, c_23, ints .i64 H, false⟩, ⟨185, 1, (some ⟨g_21, 0, none⟩), 1, 1, [.pointer (some ⟨g_19, 0, none⟩)], false⟩, ⟨187, 4, (some ⟨g_19, 0, none⟩), 1, 1, [.slice A_s s.length c_s, .slice A_13 s.length c_14, .slice A_1 ((k).toNat) c_2, .slice A_17 s.length c_18], false⟩, ⟨3, 1, (some ⟨g_16, 0, none⟩), 1, 1, ints .i64 ([-1]), false⟩, ⟨4, 1, A_13, s.length, c_14, bools (smL s), false⟩, ⟨3, 1, A_8, (fstL s).length, c_9, ints .i64 (fstL s), false⟩, ⟨3, 1, A_5, (sortL l).length, c_6, ints .i64 (sortL l), false⟩, ⟨24, 1, (some ⟨g_3, 0, none⟩), 1, 1, [.slice A_l l.length c_l], false⟩, ⟨3, 1, A_1, ((k).toNat), c_2, ints .i64 (cntV s k), false⟩]) rfl <| wr_nil <| wq <| wr_y rfl (y_ldIn (rdR 4 (r := ⟨185, 1, (some ⟨g_21, 0, none⟩), 1, 1, [.pointer (some ⟨g_19, 0, none⟩)], false⟩) rfl) underlying185 rfl rfl rfl) <| wr_y rfl (y_nilCheck rfl) <| wr_y rfl (y_fieldAt (off := 3) (m := 3) underlying187 rfl sz24 rfl rfl rfl) <| wr_y rfl (y_ldIn (rdR 5 (r := ⟨187, 4, (some ⟨g_19, 0, none⟩), 1, 1, [.slice A_s s.length c_s, .slice A_13 s.length c_14, .slice A_1 ((k).toNat) c_2, .slice A_17 s.length c_18], false⟩) rfl) underlying24 rfl rfl rfl) <| wg rfl rfl <| wg rfl rfl <| wr_nil <| w_retR (R1 := [⟨3, 1, A_17, s.length, c_18, ints .i64 (indS s k l), false⟩]) (fun _ h => h.sel [0] (by decide) rfl) ?_
  refine fin2 rfl hGW25 ⟨_, _, rfl, rfl, ?_⟩
  exact ⟨_, _, rfl, rfl⟩

end Go.Proofs.YtdfcnalkdlifiaaGreat

/-! ## E23 -/
namespace Go.Eng
open Go Go.RowKit
section
variable {P : Program} {n : Nd} {B : Nat} {w0 : World} {ops : Array Oper} {K : Env → List Row → Prop} {L : Env} {R Rc : List Row} {op : Op} {ty : TypeId} {pos : String} {aft : Array Edge}
/-- R: what is known; Rc: what has come up rests on. -/
def WDc (P : Program) (n : Nd) (B : Nat) (w0 : World) (ops : Array Oper) (K : Env → List Row → Prop) (fuel : Nat) (listed : Array Bool) (L : Env) (R Rc : List Row) : Prop :=
 ∀ a w (Q : Exit → Act → World → Prop), Sat n L a → Hp B w0 w R → (∀ w, Hp B w0 w R → Hp B w0 w Rc) → (∀ c a w, ¬ Q (.panic c) a w) → (∀ a' w' L' R', Sat n L' a' → Hp B w0 w' R' → K L' R' → Q .normal a' w') → wpAnyB P ops Q fuel (fun w => Hp B w0 w Rc) listed a w
def Turnc (P : Program) (n : Nd) (B : Nat) (w0 : World) (ops : Array Oper) (K : Env → List Row → Prop) (fuel : Nat) (listed : Array Bool) (L : Env) (R Rc : List Row) (i : Nat) : Prop :=
 ∀ a w (Q : Exit → Act → World → Prop), Sat n L a → Hp B w0 w R → (∀ w, Hp B w0 w R → Hp B w0 w Rc) → (∀ c a w, ¬ Q (.panic c) a w) → (∀ a' w' L' R', Sat n L' a' → Hp B w0 w' R' → K L' R' → Q .normal a' w') →
  wpOp P ops Q i (fun a' w' => ∃ S' : World → Prop, S' w' ∧ (barB ops listed i = true ∨ ∀ x, S' x → Hp B w0 x Rc) ∧ wpAnyB P ops Q fuel S' (listed.setIfInBounds i true) a' w') a w
theorem cd_y {d : Nat} {v : Value} {fuel : Nat} {listed : Array Bool} (i : Nat) (hi : ops[i]? = some { dst := some d, op := op, type := ty, pos := pos, after := aft, guard := none }) (hc : chk ops listed i = true) (hn : Nat.blt d n = true)
  (hy : Yl P n B w0 op ty L Rc v) (h : WDc P n B w0 ops K fuel (listed.setIfInBounds i true) ((d, v) :: L) R Rc) : WDc P n B w0 ops K (fuel + 1) listed L R Rc := by
 intro a w Q hs hp hsub hpan hq
 simp only [chk, Bool.and_eq_true] at hc
 obtain ⟨⟨⟨h1, h2⟩, h3⟩, h4⟩ := hc
 refine wpAnyB_first hi (Region.noSelect_spec h1) (fun c a w hh => (hpan c _ w hh).elim) fuel _ listed a w h4 (Region.free_spec hi h2) (by simpa using h3) (.inl ⟨rfl, fun w hw => hy a w _ rfl rfl hs hw⟩) (hsub w hp) ?_
 exact h _ w Q (hs.put hn v) hp hsub hpan hq
theorem cd_nil {fuel : Nat} {listed : Array Bool} (hr : Region.ready .any ops listed = []) (h : K L R) : WDc P n B w0 ops K fuel listed L R Rc := by
 intro a w Q hs hp _ hpan hq
 cases fuel with
 | zero => exact ⟨hr, hq _ _ L R hs hp h⟩
 | succ fuel => exact ⟨fun _ => hq _ _ L R hs hp h, by rw [hr]; simp⟩
theorem c1_a {d : Nat} {Post : Value → List Row → Prop} {fuel : Nat} {listed : Array Bool} (i : Nat) (hi : ops[i]? = some { dst := some d, op := op, type := ty, pos := pos, after := aft, guard := none }) (hn : Nat.blt d n = true) (ha : Ac P n B w0 op ty L R Post)
  (h : ∀ v R', Post v R' → (∀ w, Hp B w0 w R' → Hp B w0 w Rc) ∧ WDc P n B w0 ops K fuel (listed.setIfInBounds i true) ((d, v) :: L) R' Rc) : Turnc P n B w0 ops K fuel listed L R Rc i := by
 intro a w Q hs hp hsub hpan hq
 unfold wpOp
 simp only [hi]
 rw [if_pos (by simp [Region.wanted])]
 refine .inl (ha a w _ _ Q rfl rfl hs hp fun v w' R' hp' hv => ?_)
 obtain ⟨h1, h2⟩ := h v R' hv
 exact ⟨fun w => Hp B w0 w Rc, h1 w' hp', .inr fun _ h => h, h2 _ w' Q (hs.put hn v) hp' h1 hpan hq⟩
theorem cd_one {fuel : Nat} {listed : Array Bool} (i : Nat) (hr : Region.ready .any ops listed = [i]) (hi : Turnc P n B w0 ops K fuel listed L R Rc i) : WDc P n B w0 ops K (fuel + 1) listed L R Rc := by
 intro a w Q hs hp hsub hpan hq
 refine ⟨fun h0 => absurd (hr ▸ h0) (by simp), fun k hk => ?_⟩
 rw [hr] at hk
 obtain rfl := List.mem_singleton.1 hk
 exact hi a w Q hs hp hsub hpan hq
theorem cd_two {fuel : Nat} {listed : Array Bool} (i j : Nat) (hr : Region.ready .any ops listed = [i, j]) (hi : Turnc P n B w0 ops K fuel listed L R Rc i) (hj : Turnc P n B w0 ops K fuel listed L R Rc j) : WDc P n B w0 ops K (fuel + 1) listed L R Rc := by
 intro a w Q hs hp hsub hpan hq
 refine ⟨fun h0 => absurd (hr ▸ h0) (by simp), fun k hk => ?_⟩
 rw [hr] at hk
 rcases List.mem_cons.1 hk with rfl | hk
 ·exact hi a w Q hs hp hsub hpan hq
 ·obtain rfl := List.mem_singleton.1 hk
  exact hj a w Q hs hp hsub hpan hq
theorem cd_as {fuel : Nat} {listed : Array Bool} {d : Nat} {u v : Value} (hu : u = v) (h : WDc P n B w0 ops K fuel listed ((d, v) :: L) R Rc) : WDc P n B w0 ops K fuel listed ((d, u) :: L) R Rc := by
 subst hu
 exact h
theorem cd_rows {fuel : Nat} {listed : Array Bool} {R1 : List Row} (hR : R = R1) (h : WDc P n B w0 ops K fuel listed L R1 Rc) : WDc P n B w0 ops K fuel listed L R Rc := by
 subst hR
 exact h
end
end Go.Eng

/-! ## I3 -/
namespace Go.Proofs.YtdfcnalkdlifiaaGreat
open Go Go.Eng Go.Pure
set_option linter.unusedVariables false
/-- The large ones, the last place ahead of all. -/
def zL (s : List Int) (k : Int) (l : List Int) (i : Int) : List Int × List Int := if i < 0 then ((itF s k l).1, startsV (cntV s k)) else itL s k l i.toNat
end Go.Proofs.YtdfcnalkdlifiaaGreat

/-! ## I4 -/
namespace Go.Proofs.YtdfcnalkdlifiaaGreat
open Go Go.Eng Go.Pure
set_option linter.unusedVariables false
theorem ind_facts {s l : List Int} {k : Int} (hk : 0 ≤ k) (hs : ∀ x ∈ s, 0 ≤ x ∧ x < k) (hp : l.Perm (fstL s)) : (indS s k l).length = s.length ∧ (indS s k l).Perm (iota s.length) ∧ (∀ q : Int, 0 ≤ q → q + 1 < s.length → rd s (rd (indS s k l) q) ≤ rd s (rd (indS s k l) (q + 1))) ∧ (l.Pairwise (ordE s) → (indS s k l).Pairwise (ordE s)) := by
 refine ⟨indS_len hk hs hp, ?_⟩
 rcases Nat.eq_zero_or_pos s.length with h | h
 ·have e : s = [] := List.eq_nil_of_length_eq_zero h
  subst e
  rw [indS_nil hp]
  exact ⟨.refl _, fun q h0 h1 => by simp at h1; omega, fun _ => .nil⟩
 ·exact indS_ok hk hs hp h
end Go.Proofs.YtdfcnalkdlifiaaGreat

