/- Walks of Go functions, printed by a program of our own. -/
import Derived.Test.YtlagmdccneompaaI1
namespace Go.Proofs.Ytlagmdccneompaa
open Go Go.Eng Go.Pure
set_option linter.unusedVariables false
theorem ends_step {cs V : List Int} {i : Int} (h0 : 0 ≤ i) (hi : i < cs.length) (hl : V.length = cs.length) (hV : ∀ j : Int, 0 ≤ j → j < cs.length → rd V j = if j < i then ps cs (j + 1) else ps cs j) :
    ∀ j : Int, 0 ≤ j → j < cs.length → rd (upd V i (rd V i + rd cs i)) j = if j < i + 1 then ps cs (j + 1) else ps cs j := by
  intro j j0 j1
  have e1 : rd (upd V i (rd V i + rd cs i)) j = if j = i then rd V i + rd cs i else rd V j := rd_upd h0 j0 (by omega)
  have e2 := hV i h0 hi
  rw [if_neg (by omega)] at e2
  rw [e1, e2, hV j j0 j1]
  by_cases e : j = i
  · subst e
    rw [if_pos rfl, if_pos (by omega), ps_succ h0 hi]
  · rw [if_neg e]
    by_cases h : j < i
    · rw [if_pos h, if_pos (by omega)]
    · rw [if_neg h, if_neg (by omega)]
theorem cnt_sum {s : List Int} {k : Int} (hk : 0 ≤ k) (hs : ∀ x ∈ s, 0 ≤ x ∧ x < k) : (cntV s k).sum = s.length := by
  have h := cntV_sum (order := iota s.length) (keys := s) (k := k) hk fun i hi => hs _ (rd_mem (mem_iota.1 hi).1 (mem_iota.1 hi).2)
  rwa [map_iota_rd, iota_len] at h
theorem ends_done {cs V : List Int} (hl : V.length = cs.length) (hV : ∀ j : Int, 0 ≤ j → j < cs.length → rd V j = if j < cs.length then ps cs (j + 1) else ps cs j) : V = endsV cs :=
  list_ext_rd (hl.trans (endsV_len cs).symm) fun j h1 h2 => by rw [rd_endsV h1 (by omega), hV j h1 (by omega), if_pos (by omega)]
/-! (*whorl/induce.sorter).ends -/
set_option maxRecDepth 100000 in
theorem ends_ct {B : Nat} {w0 : World} {R : List Row} {g_x : Nat} {A_s A_m A_c A_r : Option Addr} {c_s c_m c_c c_r : Nat} {s : List Int} {k : Int} (h_x : RdC B w0 R (some ⟨g_x, 0, none⟩) 1 1 4 [.slice A_s s.length c_s, .slice A_m s.length c_m, .slice A_c k.toNat c_c, .slice A_r s.length c_r]) (h_c : RdC B w0 R A_c k.toNat c_c 1 (ints .i64 (cntV s k))) (hk : 0 ≤ k ∧ k ≤ 1048576) (hs : ∀ x ∈ s, 0 ≤ x ∧ x < k) (hN : s.length ≤ 1000000) :
    Ct Try.prog 51 #[.pointer (some ⟨g_x, 0, none⟩)] B w0 (R) (fun v R' => ∃ A c, v = .slice A k.toNat c ∧ R' = ⟨3, 1, A, k.toNat, c, ints .i64 (endsV (cntV s k)), false⟩ :: R) := by
  refine fn1 Try.func51 rfl rfl rfl ?_
  have hcl : (cntV s k).length = k.toNat := cntV_len _ _
  have hsum : (cntV s k).sum = s.length := cnt_sum (by omega) hs
  have hSl : (startsV (cntV s k)).length = k.toNat := by rw [startsV_len, hcl]
  refine w_seq ?_
  refine w_reg ?_
  refine wr_y rfl (y_assign rfl) ?_
  refine wr_nil ?_
  refine w_seq ?_
  refine w_reg ?_
  refine wr_y rfl (y_move rfl) ?_
  refine wr_y rfl (y_nilCheck rfl) ?_
  refine wr_y rfl (y_fieldAt (off := 2) (m := 2) Try.underlying58 rfl sz22 rfl rfl rfl) ?_
  refine wr_y rfl (y_ldIn (RdC.right h_x []) Try.underlying22 rfl rfl rfl) ?_
  refine wr_a rfl (a_callF en69 rfl (Ct.fresh (fun w hw => starts_ct ((RdC.right h_c []) w hw) (cntV_nonneg _ _) (by rw [hsum]; omega) (by rw [hcl]; omega)))) ?_
  rintro _ _ ⟨_, rfl, A_1, c_2, rfl, rfl⟩
  refine wr_y rfl (y_assign rfl) ?_
  refine wr_nil ?_
  refine w_seq ?_
  refine w_seq ?_
  refine w_reg ?_
  refine wr_y rfl (y_move rfl) ?_
  refine wr_y rfl (y_nilCheck rfl) ?_
  refine wr_y rfl (y_fieldAt (off := 2) (m := 2) Try.underlying58 rfl sz22 rfl rfl rfl) ?_
  refine wr_y rfl (y_ldIn (RdC.right h_x [_]) Try.underlying22 rfl rfl rfl) ?_
  refine wr_y rfl (y_len Try.underlying22 rfl) ?_
  refine wr_y rfl (y_move rfl) ?_
  refine wr_nil ?_
  refine w_block ?_
  refine w_loop2 (fun (i : Int) (V : List Int) => [(3, .slice A_1 ((startsV (cntV s k)).length) c_2), (14, .slice A_c k.toNat c_c), (15, .int .i64 ((k.toNat : Nat) : Int)), (16, .int .i64 i)]) (fun (i : Int) (V : List Int) => (⟨3, 1, A_1, (startsV (cntV s k)).length, c_2, ints .i64 V, false⟩ :: R)) (fun (i : Int) (V : List Int) => (0 ≤ i) ∧ (i ≤ (cntV s k).length) ∧ (V.length = (cntV s k).length) ∧ (∀ j : Int, 0 ≤ j → j < (cntV s k).length → rd V j = if j < i then ps (cntV s k) (j + 1) else ps (cntV s k) j)) (fun (i : Int) (V : List Int) => ((cntV s k).length - i).toNat) ?_ ?_
  ·
    exact ⟨0, startsV (cntV s k), ⟨(by omega), (by omega), (by rw [startsV_len]), (fun j h1 h2 => by rw [if_neg (by omega)]; exact rd_startsV h1 h2)⟩, (Sub.cons rfl (Sub.cons rfl (Sub.cons rfl (Sub.cons rfl Sub.nil)))), fun _ h => h⟩
  intro i V ⟨hi0, hi1, hVl, hV⟩
  refine w_seq ?_
  refine w_reg ?_
  refine wr_y rfl (y_lt rfl rfl) ?_
  refine wr_nil ?_
  refine w_seq ?_
  refine w_if rfl (fun hc1 => ?_) (fun hc1 => ?_)
  ·
    have hb1 := ps_bound (cntV_nonneg s k) i
    have hb2 := ps_bound (cntV_nonneg s k) (i + 1)
    rw [hsum] at hb1 hb2
    have hvi := hV i hi0 (by omega)
    rw [if_neg (by omega)] at hvi
    have hps := ps_succ (L := cntV s k) hi0 (by omega)
    refine w_skip ?_
    refine w_seq ?_
    refine w_block ?_
    refine w_seq ?_
    refine w_reg ?_
    refine wr_y rfl (y_move rfl) ?_
    refine wr_y rfl (y_index1 Try.underlying22 sz3 rfl rfl (RdC.right h_c [_]) (by omega) (by omega)) ?_
    refine wr_y rfl (y_ldI Try.underlying3 rfl rfl (RdC.right h_c [_]) (by omega) (by omega)) ?_
    refine wr_y rfl (y_assign rfl) ?_
    refine wr_y rfl (y_assign rfl) ?_
    refine wr_nil ?_
    refine w_reg ?_
    refine wr_y rfl (y_move rfl) ?_
    refine wr_y rfl (y_move rfl) ?_
    refine wr_y rfl (y_index1 Try.underlying22 sz3 rfl rfl (rdr 0 rfl) (by omega) (by omega)) ?_
    refine wr_y rfl (y_ldI Try.underlying3 rfl rfl (rdr 0 rfl) (by omega) (by omega)) ?_
    refine wr_y rfl (y_move rfl) ?_
    refine wr_y rfl (y_addI rfl rfl (by omega)) ?_
    refine wr_y rfl (y_index1 Try.underlying22 sz3 rfl rfl (rdr 0 rfl) (by omega) (by omega)) ?_
    refine wr_n (a_storeI 0 rfl sz3 rfl rfl (by omega) (by omega)) ?_
    rintro _ _ rfl
    refine wr_rows (R1 := (⟨3, 1, A_1, (startsV (cntV s k)).length, c_2, ints .i64 (upd V i ((rd V i) + (rd (cntV s k) i))), false⟩ :: R)) rfl ?_
    refine wr_nil ?_
    refine w_reg ?_
    refine wr_y rfl (y_addI rfl rfl (by omega)) ?_
    refine wr_y rfl (y_move rfl) ?_
    refine wr_nil ?_
    exact ⟨i + 1, upd V i ((rd V i) + (rd (cntV s k) i)), ⟨(by omega), (by omega), (by rw [upd_length]; exact hVl), (ends_step hi0 (by omega) hVl hV)⟩, (by omega), (Sub.cons rfl (Sub.cons rfl (Sub.cons rfl (Sub.cons rfl Sub.nil)))), fun _ h => h⟩
  ·
    refine w_exit ?_
    refine w_seq ?_
    refine w_reg ?_
    refine wr_y rfl (y_move rfl) ?_
    refine wr_y rfl (y_assign rfl) ?_
    refine wr_nil ?_
    have hke : k.toNat = (cntV s k).length := hcl.symm
    obtain rfl : V = endsV (cntV s k) := ends_done hVl fun j h1 h2 => by rw [hV j h1 h2, if_pos (by omega), if_pos (by omega)]
    refine w_ret ?_
    rw [startsV_len, hcl]
    exact ⟨_, rfl, _, _, rfl, rfl⟩

theorem lgC {s D : List Int} {i : Int} (hent : rd D i = -1 ∨ (0 ≤ rd D i ∧ rd D i < s.length)) : (0 < rd D i ∧ ¬ rdb (smL s) (rd D i - 1) = true) ↔ (0 < rd D i ∧ smB s (rd D i - 1) = false) := by
  constructor
  · rintro ⟨h1, h2⟩
    rw [rdb_smL (by omega) (by omega)] at h2
    exact ⟨h1, by simpa using h2⟩
  · rintro ⟨h1, h2⟩
    rw [rdb_smL (by omega) (by omega), h2]
    exact ⟨h1, by simp⟩
theorem smC {s D : List Int} {i : Int} (hent : rd D i = -1 ∨ (0 ≤ rd D i ∧ rd D i < s.length)) : (0 < rd D i ∧ rdb (smL s) (rd D i - 1) = true) ↔ (0 < rd D i ∧ smB s (rd D i - 1) = true) := by
  constructor
  · rintro ⟨h1, h2⟩
    rw [rdb_smL (by omega) (by omega)] at h2
    exact ⟨h1, h2⟩
  · rintro ⟨h1, h2⟩
    rw [rdb_smL (by omega) (by omega), h2]
    exact ⟨h1, rfl⟩
section
variable {s l D H : List Int} {k i : Int} (hk : 0 ≤ k) (hs : ∀ x ∈ s, 0 ≤ x ∧ x < k) (hp : l.Perm (fstL s)) (hn : 0 < s.length)
include hk hs hp hn
theorem fLeZ (i0 : 0 ≤ i) (hi : i < s.length) (hD : D = (itL s k l i.toNat).1) (hH : H = (itL s k l i.toNat).2) : (rd D i = -1 ∨ (0 ≤ rd D i ∧ rd D i < s.length)) ∧ (D.length = s.length ∧ H.length = k.toNat) := by
  have h := fLe hk hs hp hn (i := i.toNat) (by omega) hD hH
  rwa [Int.toNat_of_nonneg i0] at h
theorem fLZ (i0 : 0 ≤ i) (hi : i < s.length) (hD : D = (itL s k l i.toNat).1) (hH : H = (itL s k l i.toNat).2) (hc : 0 < rd D i ∧ ¬ rdb (smL s) (rd D i - 1) = true) :
    rd D i < s.length ∧ (0 ≤ rd s (rd D i - 1) ∧ rd s (rd D i - 1) < k) ∧ (0 ≤ rd H (rd s (rd D i - 1)) ∧ rd H (rd s (rd D i - 1)) < s.length) ∧ upd D (rd H (rd s (rd D i - 1))) (rd D i - 1) = (itL s k l (i + 1).toNat).1 ∧ upd H (rd s (rd D i - 1)) (rd H (rd s (rd D i - 1)) + 1) = (itL s k l (i + 1).toNat).2 := by
  have he := (fLeZ hk hs hp hn i0 hi hD hH).1
  have h := fL hk hs hp hn (i := i.toNat) (by omega) hD hH (by rw [Int.toNat_of_nonneg i0]; exact (lgC he).1 hc)
  rw [Int.toNat_of_nonneg i0] at h
  rwa [show (i + 1).toNat = i.toNat + 1 by omega]
theorem fLsZ (i0 : 0 ≤ i) (hi : i < s.length) (hD : D = (itL s k l i.toNat).1) (hH : H = (itL s k l i.toNat).2) (hc : ¬ (0 < rd D i ∧ ¬ rdb (smL s) (rd D i - 1) = true)) : D = (itL s k l (i + 1).toNat).1 ∧ H = (itL s k l (i + 1).toNat).2 := by
  have he := (fLeZ hk hs hp hn i0 hi hD hH).1
  have h := fLs (i := i.toNat) hD hH (by rw [Int.toNat_of_nonneg i0]; exact fun h => hc ((lgC he).2 h))
  rwa [show (i + 1).toNat = i.toNat + 1 by omega]
theorem fSeZ (i0 : 0 ≤ i) (hi : i < s.length) (hD : D = (itS s k l (s.length - 1 - i).toNat).1) (hH : H = (itS s k l (s.length - 1 - i).toNat).2) : (rd D i = -1 ∨ (0 ≤ rd D i ∧ rd D i < s.length)) ∧ (D.length = s.length ∧ H.length = k.toNat) :=
  fSe hk hs hp hn (m := ((s.length : Int) - 1 - i).toNat) (by omega) (by omega) hD hH
theorem fSZ (i0 : 0 ≤ i) (hi : i < s.length) (hD : D = (itS s k l (s.length - 1 - i).toNat).1) (hH : H = (itS s k l (s.length - 1 - i).toNat).2) (hc : 0 < rd D i ∧ rdb (smL s) (rd D i - 1) = true) :
    rd D i < s.length ∧ (0 ≤ rd s (rd D i - 1) ∧ rd s (rd D i - 1) < k) ∧ (0 ≤ rd H (rd s (rd D i - 1)) - 1 ∧ rd H (rd s (rd D i - 1)) - 1 < s.length) ∧ upd D (rd H (rd s (rd D i - 1)) - 1) (rd D i - 1) = (itS s k l (s.length - 1 - (i - 1)).toNat).1 ∧ upd H (rd s (rd D i - 1)) (rd H (rd s (rd D i - 1)) - 1) = (itS s k l (s.length - 1 - (i - 1)).toNat).2 := by
  have he := (fSeZ hk hs hp hn i0 hi hD hH).1
  have h := fS hk hs hp hn (m := ((s.length : Int) - 1 - i).toNat) (by omega) (by omega) hD hH ((smC he).1 hc)
  rwa [show ((s.length : Int) - 1 - (i - 1)).toNat = ((s.length : Int) - 1 - i).toNat + 1 by omega]
theorem fSsZ (i0 : 0 ≤ i) (hi : i < s.length) (hD : D = (itS s k l (s.length - 1 - i).toNat).1) (hH : H = (itS s k l (s.length - 1 - i).toNat).2) (hc : ¬ (0 < rd D i ∧ rdb (smL s) (rd D i - 1) = true)) : D = (itS s k l (s.length - 1 - (i - 1)).toNat).1 ∧ H = (itS s k l (s.length - 1 - (i - 1)).toNat).2 := by
  have he := (fSeZ hk hs hp hn i0 hi hD hH).1
  have h := fSs (m := ((s.length : Int) - 1 - i).toNat) (i := i) (by omega) hD hH (fun h => hc ((smC he).2 h))
  rwa [show ((s.length : Int) - 1 - (i - 1)).toNat = ((s.length : Int) - 1 - i).toNat + 1 by omega]
end
/-! (*whorl/induce.sorter).last -/
set_option maxRecDepth 100000 in
theorem lay_ct {B : Nat} {w0 : World} {R : List Row} {g_x : Nat} {A_s A_m A_c A_r : Option Addr} {c_s c_m c_c c_r : Nat} {s : List Int} {k : Int} {A_e : Option Addr} {n_e c_e : Nat} {row E : List Int} {j : Int} (h_x : RdC B w0 R (some ⟨g_x, 0, none⟩) 1 1 4 [.slice A_s s.length c_s, .slice A_m s.length c_m, .slice A_c k.toNat c_c, .slice A_r s.length c_r]) (h_s : RdC B w0 R A_s s.length c_s 1 (ints .i64 s)) (hk : 0 ≤ k ∧ k ≤ 1048576) (hN : s.length ≤ 1000000) (hj : 0 ≤ j ∧ j < s.length) (hc : 0 ≤ rd s j ∧ rd s j < k) (hl : row.length = s.length ∧ E.length = k.toNat ∧ n_e = k.toNat) (hv : 0 ≤ (rd E (rd s j)) - 1 ∧ (rd E (rd s j)) - 1 < s.length) :
    Ct Try.prog 53 #[.pointer (some ⟨g_x, 0, none⟩), .slice A_e n_e c_e, .int .i64 j] B w0 (⟨3, 1, A_r, s.length, c_r, ints .i64 row, false⟩ :: ⟨3, 1, A_e, n_e, c_e, ints .i64 E, false⟩ :: R) (fun v R' => v = .tuple #[] ∧ R' = ⟨3, 1, A_r, s.length, c_r, ints .i64 (upd row ((rd E (rd s j)) - 1) j), false⟩ :: ⟨3, 1, A_e, n_e, c_e, ints .i64 (upd E (rd s j) ((rd E (rd s j)) - 1)), false⟩ :: R) := by
  refine fn0 Try.func53 rfl rfl rfl ?_
  obtain ⟨hl1, hl2, hl3⟩ := hl
  have he : rd (upd E (rd s j) ((rd E (rd s j)) - 1)) (rd s j) = (rd E (rd s j)) - 1 := rd_upd_same hc.1 (by omega)
  refine w_seq ?_
  refine w_reg ?_
  refine wr_y rfl (y_move rfl) ?_
  refine wr_y rfl (y_move rfl) ?_
  refine wr_y rfl (y_nilCheck rfl) ?_
  refine wr_y rfl (y_fieldAt (off := 0) (m := 0) Try.underlying58 rfl sz22 rfl rfl rfl) ?_
  refine wr_y rfl (y_ldIn (RdC.right h_x [_, _]) Try.underlying22 rfl rfl rfl) ?_
  refine wr_y rfl (y_move rfl) ?_
  refine wr_y rfl (y_index1 Try.underlying22 sz3 rfl rfl (RdC.right h_s [_, _]) (by omega) (by omega)) ?_
  refine wr_y rfl (y_ldI Try.underlying3 rfl rfl (RdC.right h_s [_, _]) (by omega) (by omega)) ?_
  refine wr_y rfl (y_index1 Try.underlying22 sz3 rfl rfl (rdr 1 rfl) (by omega) (by omega)) ?_
  refine wr_y rfl (y_ldI Try.underlying3 rfl rfl (rdr 1 rfl) (by omega) (by omega)) ?_
  refine wr_y rfl (y_subI rfl rfl (by omega)) ?_
  refine wr_y rfl (y_index1 Try.underlying22 sz3 rfl rfl (rdr 1 rfl) (by omega) (by omega)) ?_
  refine wr_n (a_storeI 1 rfl sz3 rfl rfl (by omega) (by omega)) ?_
  rintro _ _ rfl
  refine wr_rows (R1 := (⟨3, 1, A_r, s.length, c_r, ints .i64 row, false⟩ :: ⟨3, 1, A_e, n_e, c_e, ints .i64 (upd E (rd s j) ((rd E (rd s j)) - 1)), false⟩ :: R)) rfl ?_
  refine wr_nil ?_
  refine w_regd mixed ?_
  refine wd_y 0 rfl (by kernel_rfl) rfl (y_move rfl) ?_
  refine wd_y 1 rfl (by kernel_rfl) rfl (y_nilCheck rfl) ?_
  refine wd_y 2 rfl (by kernel_rfl) rfl (y_fieldAt (off := 3) (m := 3) Try.underlying58 rfl sz22 rfl rfl rfl) ?_
  refine wd_y 3 rfl (by kernel_rfl) rfl (y_ldIn (RdC.right h_x [_, _]) Try.underlying22 rfl rfl rfl) ?_
  refine wd_y 4 rfl (by kernel_rfl) rfl (y_move rfl) ?_
  refine wd_y 5 rfl (by kernel_rfl) rfl (y_move rfl) ?_
  refine wd_y 6 rfl (by kernel_rfl) rfl (y_nilCheck rfl) ?_
  refine wd_y 7 rfl (by kernel_rfl) rfl (y_fieldAt (off := 0) (m := 0) Try.underlying58 rfl sz22 rfl rfl rfl) ?_
  refine wd_y 8 rfl (by kernel_rfl) rfl (y_ldIn (RdC.right h_x [_, _]) Try.underlying22 rfl rfl rfl) ?_
  refine wd_y 9 rfl (by kernel_rfl) rfl (y_move rfl) ?_
  refine wd_y 10 rfl (by kernel_rfl) rfl (y_index1 Try.underlying22 sz3 rfl rfl (RdC.right h_s [_, _]) (by omega) (by omega)) ?_
  refine wd_y 11 rfl (by kernel_rfl) rfl (y_ldI Try.underlying3 rfl rfl (RdC.right h_s [_, _]) (by omega) (by omega)) ?_
  refine wd_y 12 rfl (by kernel_rfl) rfl (y_index1 Try.underlying22 sz3 rfl rfl (rdr 1 rfl) (by omega) (by omega)) ?_
  refine wd_y 13 rfl (by kernel_rfl) rfl (y_ldI Try.underlying3 rfl rfl (rdr 1 rfl) (by omega) (by omega)) ?_
  refine wd_y 14 rfl (by kernel_rfl) rfl (y_move rfl) ?_
  refine wd_y 15 rfl (by kernel_rfl) rfl (y_index1 Try.underlying22 sz3 rfl rfl (rdr 0 rfl) (by omega) (by omega)) ?_
  refine wd_n 16 rfl (by kernel_rfl) (a_storeI 0 rfl sz3 rfl rfl (by omega) (by omega)) ?_
  rintro _ _ rfl
  refine ⟨.inl (by kernel_rfl), ?_⟩
  refine wd_rows (R1 := (⟨3, 1, A_r, s.length, c_r, ints .i64 (upd row (rd (upd E (rd s j) ((rd E (rd s j)) - 1)) (rd s j)) j), false⟩ :: ⟨3, 1, A_e, n_e, c_e, ints .i64 (upd E (rd s j) ((rd E (rd s j)) - 1)), false⟩ :: R)) rfl ?_
  refine wd_nil (by kernel_rfl) ?_
  exact ⟨rfl, by rw [he]⟩

/-! (*whorl/induce.sorter).first -/
set_option maxRecDepth 100000 in
theorem layf_ct {B : Nat} {w0 : World} {R : List Row} {g_x : Nat} {A_s A_m A_c A_r : Option Addr} {c_s c_m c_c c_r : Nat} {s : List Int} {k : Int} {A_e : Option Addr} {n_e c_e : Nat} {row E : List Int} {j : Int} (h_x : RdC B w0 R (some ⟨g_x, 0, none⟩) 1 1 4 [.slice A_s s.length c_s, .slice A_m s.length c_m, .slice A_c k.toNat c_c, .slice A_r s.length c_r]) (h_s : RdC B w0 R A_s s.length c_s 1 (ints .i64 s)) (hk : 0 ≤ k ∧ k ≤ 1048576) (hN : s.length ≤ 1000000) (hj : 0 ≤ j ∧ j < s.length) (hc : 0 ≤ rd s j ∧ rd s j < k) (hl : row.length = s.length ∧ E.length = k.toNat ∧ n_e = k.toNat) (hv : 0 ≤ rd E (rd s j) ∧ rd E (rd s j) < s.length) :
    Ct Try.prog 71 #[.pointer (some ⟨g_x, 0, none⟩), .slice A_e n_e c_e, .int .i64 j] B w0 (⟨3, 1, A_r, s.length, c_r, ints .i64 row, false⟩ :: ⟨3, 1, A_e, n_e, c_e, ints .i64 E, false⟩ :: R) (fun v R' => v = .tuple #[] ∧ R' = ⟨3, 1, A_r, s.length, c_r, ints .i64 (upd row (rd E (rd s j)) j), false⟩ :: ⟨3, 1, A_e, n_e, c_e, ints .i64 (upd E (rd s j) ((rd E (rd s j)) + 1)), false⟩ :: R) := by
  refine fn0 Try.func71 rfl rfl rfl ?_
  obtain ⟨hl1, hl2, hl3⟩ := hl
  refine w_seq ?_
  refine w_regd mixed ?_
  refine wd_y 0 rfl (by kernel_rfl) rfl (y_move rfl) ?_
  refine wd_y 1 rfl (by kernel_rfl) rfl (y_nilCheck rfl) ?_
  refine wd_y 2 rfl (by kernel_rfl) rfl (y_fieldAt (off := 3) (m := 3) Try.underlying58 rfl sz22 rfl rfl rfl) ?_
  refine wd_y 3 rfl (by kernel_rfl) rfl (y_ldIn (RdC.right h_x [_, _]) Try.underlying22 rfl rfl rfl) ?_
  refine wd_y 4 rfl (by kernel_rfl) rfl (y_move rfl) ?_
  refine wd_y 5 rfl (by kernel_rfl) rfl (y_move rfl) ?_
  refine wd_y 6 rfl (by kernel_rfl) rfl (y_nilCheck rfl) ?_
  refine wd_y 7 rfl (by kernel_rfl) rfl (y_fieldAt (off := 0) (m := 0) Try.underlying58 rfl sz22 rfl rfl rfl) ?_
  refine wd_y 8 rfl (by kernel_rfl) rfl (y_ldIn (RdC.right h_x [_, _]) Try.underlying22 rfl rfl rfl) ?_
  refine wd_y 9 rfl (by kernel_rfl) rfl (y_move rfl) ?_
  refine wd_y 10 rfl (by kernel_rfl) rfl (y_index1 Try.underlying22 sz3 rfl rfl (RdC.right h_s [_, _]) (by omega) (by omega)) ?_
  refine wd_y 11 rfl (by kernel_rfl) rfl (y_ldI Try.underlying3 rfl rfl (RdC.right h_s [_, _]) (by omega) (by omega)) ?_
  refine wd_y 12 rfl (by kernel_rfl) rfl (y_index1 Try.underlying22 sz3 rfl rfl (rdr 1 rfl) (by omega) (by omega)) ?_
  refine wd_y 13 rfl (by kernel_rfl) rfl (y_ldI Try.underlying3 rfl rfl (rdr 1 rfl) (by omega) (by omega)) ?_
  refine wd_y 14 rfl (by kernel_rfl) rfl (y_move rfl) ?_
  refine wd_y 15 rfl (by kernel_rfl) rfl (y_index1 Try.underlying22 sz3 rfl rfl (rdr 0 rfl) (by omega) (by omega)) ?_
  refine wd_n 16 rfl (by kernel_rfl) (a_storeI 0 rfl sz3 rfl rfl (by omega) (by omega)) ?_
  rintro _ _ rfl
  refine ⟨.inl (by kernel_rfl), ?_⟩
  refine wd_rows (R1 := (⟨3, 1, A_r, s.length, c_r, ints .i64 (upd row (rd E (rd s j)) j), false⟩ :: ⟨3, 1, A_e, n_e, c_e, ints .i64 E, false⟩ :: R)) rfl ?_
  refine wd_nil (by kernel_rfl) ?_
  refine w_reg ?_
  refine wr_y rfl (y_move rfl) ?_
  refine wr_y rfl (y_move rfl) ?_
  refine wr_y rfl (y_nilCheck rfl) ?_
  refine wr_y rfl (y_fieldAt (off := 0) (m := 0) Try.underlying58 rfl sz22 rfl rfl rfl) ?_
  refine wr_y rfl (y_ldIn (RdC.right h_x [_, _]) Try.underlying22 rfl rfl rfl) ?_
  refine wr_y rfl (y_move rfl) ?_
  refine wr_y rfl (y_index1 Try.underlying22 sz3 rfl rfl (RdC.right h_s [_, _]) (by omega) (by omega)) ?_
  refine wr_y rfl (y_ldI Try.underlying3 rfl rfl (RdC.right h_s [_, _]) (by omega) (by omega)) ?_
  refine wr_y rfl (y_index1 Try.underlying22 sz3 rfl rfl (rdr 1 rfl) (by omega) (by omega)) ?_
  refine wr_y rfl (y_ldI Try.underlying3 rfl rfl (rdr 1 rfl) (by omega) (by omega)) ?_
  refine wr_y rfl (y_addI rfl rfl (by omega)) ?_
  refine wr_y rfl (y_index1 Try.underlying22 sz3 rfl rfl (rdr 1 rfl) (by omega) (by omega)) ?_
  refine wr_n (a_storeI 1 rfl sz3 rfl rfl (by omega) (by omega)) ?_
  rintro _ _ rfl
  refine wr_rows (R1 := (⟨3, 1, A_r, s.length, c_r, ints .i64 (upd row (rd E (rd s j)) j), false⟩ :: ⟨3, 1, A_e, n_e, c_e, ints .i64 (upd E (rd s j) ((rd E (rd s j)) + 1)), false⟩ :: R)) rfl ?_
  refine wr_nil ?_
  exact ⟨rfl, rfl⟩

/-! (*whorl/induce.sorter).large -/
set_option maxRecDepth 100000 in
theorem large_ct {B : Nat} {w0 : World} {R : List Row} {g_x : Nat} {A_s A_m A_c A_r : Option Addr} {c_s c_m c_c c_r : Nat} {s l : List Int} {k : Int} {row : List Int} (h_x : RdC B w0 R (some ⟨g_x, 0, none⟩) 1 1 4 [.slice A_s s.length c_s, .slice A_m s.length c_m, .slice A_c k.toNat c_c, .slice A_r s.length c_r]) (h_s : RdC B w0 R A_s s.length c_s 1 (ints .i64 s)) (h_m : RdC B w0 R A_m s.length c_m 1 (bools (smL s))) (h_c : RdC B w0 R A_c k.toNat c_c 1 (ints .i64 (cntV s k))) (hk : 0 ≤ k ∧ k ≤ 1048576) (hs : ∀ x ∈ s, 0 ≤ x ∧ x < k) (hN : s.length ≤ 1000000) (hp : l.Perm (fstL s)) (hn : 0 < s.length) (hrow : row = (itF s k l).1) :
    Ct Try.prog 54 #[.pointer (some ⟨g_x, 0, none⟩)] B w0 (⟨3, 1, A_r, s.length, c_r, ints .i64 row, false⟩ :: R) (fun v R' => v = .tuple #[] ∧ R' = ⟨3, 1, A_r, s.length, c_r, ints .i64 (itL s k l s.length).1, false⟩ :: R) := by
  refine fn0 Try.func54 rfl rfl rfl ?_
  have hcl : (cntV s k).length = k.toNat := cntV_len _ _
  have hsum : (cntV s k).sum = s.length := cnt_sum hk.1 hs
  have hSl : (startsV (cntV s k)).length = k.toNat := by rw [startsV_len, hcl]
  obtain ⟨f1, f2, f3, f4, f5, f6⟩ := fL0 hk.1 hs hp hn hrow (rfl : startsV (cntV s k) = _)
  refine w_seq ?_
  refine w_reg ?_
  refine wr_y rfl (y_move rfl) ?_
  refine wr_y rfl (y_nilCheck rfl) ?_
  refine wr_y rfl (y_fieldAt (off := 2) (m := 2) Try.underlying58 rfl sz22 rfl rfl rfl) ?_
  refine wr_y rfl (y_ldIn (RdC.right h_x [_]) Try.underlying22 rfl rfl rfl) ?_
  refine wr_a rfl (a_callF en69 rfl (Ct.fresh (fun w hw => starts_ct ((RdC.right h_c [_]) w hw) (cntV_nonneg _ _) (by rw [hsum]; omega) (by rw [hcl]; omega)))) ?_
  rintro _ _ ⟨_, rfl, A_1, c_2, rfl, rfl⟩
  refine wr_y rfl (y_assign rfl) ?_
  refine wr_nil ?_
  refine w_seq ?_
  refine w_reg ?_
  refine wr_y rfl (y_move rfl) ?_
  refine wr_y rfl (y_move rfl) ?_
  refine wr_y rfl (y_move rfl) ?_
  refine wr_y rfl (y_nilCheck rfl) ?_
  refine wr_y rfl (y_fieldAt (off := 0) (m := 0) Try.underlying58 rfl sz22 rfl rfl rfl) ?_
  refine wr_y rfl (y_ldIn (RdC.right h_x [_, _]) Try.underlying22 rfl rfl rfl) ?_
  refine wr_y rfl (y_len Try.underlying22 rfl) ?_
  refine wr_y rfl (y_subI rfl rfl (by omega)) ?_
  refine wr_sub (R1 := (⟨3, 1, A_r, s.length, c_r, ints .i64 row, false⟩ :: ⟨3, 1, A_1, (startsV (cntV s k)).length, c_2, ints .i64 (startsV (cntV s k)), false⟩ :: R)) (Sub.refl _) (fun _ h => h.selR (F := [_, _]) (F' := [_, _]) [1, 0] (by decide) rfl) ?_
  refine wr_a rfl (a_callF en71 rfl (layf_ct (row := row) (E := (startsV (cntV s k))) (j := (((s.length : Nat) : Int) - 1)) (RdC.right h_x []) (RdC.right h_s []) hk hN ⟨by omega, by omega⟩ f1 ⟨f3.1, f3.2, by rw [startsV_len, hcl]⟩ f2)) ?_
  rintro _ _ ⟨rfl, rfl⟩
  refine wr_rows (R1 := (⟨3, 1, A_r, s.length, c_r, ints .i64 (upd row (rd (startsV (cntV s k)) (rd s (((s.length : Nat) : Int) - 1))) (((s.length : Nat) : Int) - 1)), false⟩ :: ⟨3, 1, A_1, (startsV (cntV s k)).length, c_2, ints .i64 (upd (startsV (cntV s k)) (rd s (((s.length : Nat) : Int) - 1)) ((rd (startsV (cntV s k)) (rd s (((s.length : Nat) : Int) - 1))) + 1)), false⟩ :: R)) rfl ?_
  refine wr_nil ?_
  refine w_seq ?_
  refine w_reg ?_
  refine wr_y rfl (y_move rfl) ?_
  refine wr_y rfl (y_nilCheck rfl) ?_
  refine wr_y rfl (y_fieldAt (off := 3) (m := 3) Try.underlying58 rfl sz22 rfl rfl rfl) ?_
  refine wr_y rfl (y_ldIn (RdC.right h_x [_, _]) Try.underlying22 rfl rfl rfl) ?_
  refine wr_y rfl (y_len Try.underlying22 rfl) ?_
  refine wr_y rfl (y_move rfl) ?_
  refine wr_nil ?_
  refine w_block ?_
  refine w_loop3 (fun (i : Int) (D : List Int) (H : List Int) => [(0, .pointer (some ⟨g_x, 0, none⟩)), (2, .slice A_1 ((startsV (cntV s k)).length) c_2), (23, .int .i64 ((s.length : Nat) : Int)), (24, .int .i64 i)]) (fun (i : Int) (D : List Int) (H : List Int) => (⟨3, 1, A_r, s.length, c_r, ints .i64 D, false⟩ :: ⟨3, 1, A_1, (startsV (cntV s k)).length, c_2, ints .i64 H, false⟩ :: R)) (fun (i : Int) (D : List Int) (H : List Int) => (0 ≤ i) ∧ (i ≤ s.length) ∧ (D = (itL s k l i.toNat).1) ∧ (H = (itL s k l i.toNat).2)) (fun (i : Int) (D : List Int) (H : List Int) => (s.length - i).toNat) ?_ ?_
  ·
    exact ⟨0, upd row (rd (startsV (cntV s k)) (rd s (((s.length : Nat) : Int) - 1))) (((s.length : Nat) : Int) - 1), upd (startsV (cntV s k)) (rd s (((s.length : Nat) : Int) - 1)) ((rd (startsV (cntV s k)) (rd s (((s.length : Nat) : Int) - 1))) + 1), ⟨(by omega), (by omega), (f4), (f5)⟩, (Sub.cons rfl (Sub.cons rfl (Sub.cons rfl (Sub.cons rfl Sub.nil)))), fun _ h => h⟩
  intro i D H ⟨hi0, hi1, hD, hH⟩
  refine w_seq ?_
  refine w_reg ?_
  refine wr_y rfl (y_lt rfl rfl) ?_
  refine wr_nil ?_
  refine w_seq ?_
  refine w_if rfl (fun hc1 => ?_) (fun hc1 => ?_)
  ·
    have hf := fLeZ hk.1 hs hp hn hi0 (by omega) hD hH
    have hf1 := hf.1
    refine w_skip ?_
    refine w_seq ?_
    refine w_block ?_
    refine w_seq ?_
    refine w_reg ?_
    refine wr_y rfl (y_move rfl) ?_
    refine wr_y rfl (y_assign rfl) ?_
    refine wr_nil ?_
    refine w_seq ?_
    refine w_reg ?_
    refine wr_y rfl (y_move rfl) ?_
    refine wr_y rfl (y_nilCheck rfl) ?_
    refine wr_y rfl (y_fieldAt (off := 3) (m := 3) Try.underlying58 rfl sz22 rfl rfl rfl) ?_
    refine wr_y rfl (y_ldIn (RdC.right h_x [_, _]) Try.underlying22 rfl rfl rfl) ?_
    refine wr_y rfl (y_move rfl) ?_
    refine wr_y rfl (y_index1 Try.underlying22 sz3 rfl rfl (rdr 0 rfl) (by omega) (by omega)) ?_
    refine wr_y rfl (y_ldI Try.underlying3 rfl rfl (rdr 0 rfl) (by omega) (by omega)) ?_
    refine wr_y rfl (y_assign rfl) ?_
    refine wr_nil ?_
    refine w_seq ?_
    refine w_reg ?_
    refine wr_y rfl (y_move rfl) ?_
    refine wr_y rfl (y_gt rfl rfl) ?_
    refine wr_y rfl (y_move rfl) ?_
    refine wr_mid 10 [(0, .pointer (some ⟨g_x, 0, none⟩)), (2, .slice A_1 ((startsV (cntV s k)).length) c_2), (4, .int .i64 (rd D i)), (23, .int .i64 ((s.length : Nat) : Int)), (24, .int .i64 i), (46, .bool (decide ((0 < (rd D i)) ∧ (¬ (rdb (smL s) ((rd D i) - 1) = true)))))] (⟨3, 1, A_r, s.length, c_r, ints .i64 D, false⟩ :: ⟨3, 1, A_1, (startsV (cntV s k)).length, c_2, ints .i64 H, false⟩ :: R) ?_ ?_
    ·
      refine wr_case 36 rfl (fun hc2 => ?_) (fun hc2 => ?_)
      ·
        refine wr_yes rfl rfl ?_
        refine wr_y rfl (y_move rfl) ?_
        refine wr_yes rfl rfl ?_
        refine wr_y rfl (y_nilCheck rfl) ?_
        refine wr_yes rfl rfl ?_
        refine wr_y rfl (y_fieldAt (off := 1) (m := 1) Try.underlying58 rfl sz55 rfl rfl rfl) ?_
        refine wr_yes rfl rfl ?_
        refine wr_y rfl (y_ldIn (RdC.right h_x [_, _]) Try.underlying55 rfl rfl rfl) ?_
        refine wr_yes rfl rfl ?_
        refine wr_y rfl (y_move rfl) ?_
        refine wr_yes rfl rfl ?_
        refine wr_y rfl (y_subI rfl rfl (by omega)) ?_
        refine wr_yes rfl rfl ?_
        refine wr_y rfl (y_index1 Try.underlying55 sz4 rfl rfl (RdC.right h_m [_, _]) (by omega) (by omega)) ?_
        refine wr_yes rfl rfl ?_
        refine wr_y rfl (y_ldB Try.underlying4 rfl rfl (RdC.right h_m [_, _]) (by omega) (by omega)) ?_
        refine wr_yes rfl rfl ?_
        refine wr_y rfl (y_notD rfl) ?_
        refine wr_y rfl (y_pickT rfl rfl) ?_
        refine wr_nil ?_
        exact ⟨(Sub.cons rfl (Sub.cons rfl (Sub.cons rfl (Sub.cons rfl (Sub.cons rfl (Sub.to rfl (mb (by first | omega | exact ⟨fun h => ⟨(by assumption), h⟩, fun h => h.2⟩ | simp [*])) Sub.nil)))))), fun _ h => h⟩
      ·
        refine wr_no rfl rfl rfl rfl ?_
        refine wr_no rfl rfl rfl rfl ?_
        refine wr_no rfl rfl rfl rfl ?_
        refine wr_no rfl rfl rfl rfl ?_
        refine wr_no rfl rfl rfl rfl ?_
        refine wr_no rfl rfl rfl rfl ?_
        refine wr_no rfl rfl rfl rfl ?_
        refine wr_no rfl rfl rfl rfl ?_
        refine wr_no rfl rfl rfl rfl ?_
        refine wr_y rfl (y_pickF rfl rfl) ?_
        refine wr_nil ?_
        exact ⟨(Sub.cons rfl (Sub.cons rfl (Sub.cons rfl (Sub.cons rfl (Sub.cons rfl (Sub.to rfl (mb_f (by first | omega | exact ⟨fun h => ⟨(by assumption), h⟩, fun h => h.2⟩ | simp [*])) Sub.nil)))))), fun _ h => h⟩
    refine wr_nil ?_
    refine w_if rfl (fun hc3 => ?_) (fun hc3 => ?_)
    ·
      obtain ⟨g1, g2, g3, g4, g5⟩ := fLZ hk.1 hs hp hn hi0 (by omega) hD hH hc3
      refine w_reg ?_
      refine wr_y rfl (y_move rfl) ?_
      refine wr_y rfl (y_move rfl) ?_
      refine wr_y rfl (y_move rfl) ?_
      refine wr_y rfl (y_subI rfl rfl (by omega)) ?_
      refine wr_a rfl (a_callF en71 rfl (layf_ct (row := D) (E := H) (j := ((rd D i) - 1)) (RdC.right h_x []) (RdC.right h_s []) hk hN ⟨by omega, by omega⟩ g2 ⟨hf.2.1, hf.2.2, by rw [startsV_len, hcl]⟩ g3)) ?_
      rintro _ _ ⟨rfl, rfl⟩
      refine wr_rows (R1 := (⟨3, 1, A_r, s.length, c_r, ints .i64 (upd D (rd H (rd s ((rd D i) - 1))) ((rd D i) - 1)), false⟩ :: ⟨3, 1, A_1, (startsV (cntV s k)).length, c_2, ints .i64 (upd H (rd s ((rd D i) - 1)) ((rd H (rd s ((rd D i) - 1))) + 1)), false⟩ :: R)) rfl ?_
      refine wr_nil ?_
      refine w_reg ?_
      refine wr_y rfl (y_addI rfl rfl (by omega)) ?_
      refine wr_y rfl (y_move rfl) ?_
      refine wr_nil ?_
      exact ⟨i + 1, upd D (rd H (rd s ((rd D i) - 1))) ((rd D i) - 1), upd H (rd s ((rd D i) - 1)) ((rd H (rd s ((rd D i) - 1))) + 1), ⟨(by omega), (by omega), (g4), (g5)⟩, (by omega), (Sub.cons rfl (Sub.cons rfl (Sub.cons rfl (Sub.cons rfl Sub.nil)))), fun _ h => h⟩
    ·
      have g4 := fLsZ hk.1 hs hp hn hi0 (by omega) hD hH hc3
      refine w_skip ?_
      refine w_reg ?_
      refine wr_y rfl (y_addI rfl rfl (by omega)) ?_
      refine wr_y rfl (y_move rfl) ?_
      refine wr_nil ?_
      exact ⟨i + 1, D, H, ⟨(by omega), (by omega), (g4.1), (g4.2)⟩, (by omega), (Sub.cons rfl (Sub.cons rfl (Sub.cons rfl (Sub.cons rfl Sub.nil)))), fun _ h => h⟩
  ·
    refine w_sub (R1 := (⟨3, 1, A_r, s.length, c_r, ints .i64 D, false⟩ :: R)) (Sub.refl _) (fun _ h => h.selR (F := [_, _]) (F' := [_]) [0] (by decide) rfl) ?_
    have hie : i.toNat = s.length := by omega
    rw [hie] at hD
    subst hD
    refine w_exit ?_
    exact ⟨rfl, rfl⟩

theorem cl_C {s D : List Int} {q : Int} (hent : rd D q = -1 ∨ (0 ≤ rd D q ∧ rd D q < s.length)) : (0 ≤ rd D q ∧ rdb (smL s) (rd D q) = true) ↔ (0 ≤ rd D q ∧ smB s (rd D q) = true) := by
  constructor <;> rintro ⟨h1, h2⟩ <;> refine ⟨h1, ?_⟩
  · rwa [rdb_smL h1 (by omega)] at h2
  · rwa [rdb_smL h1 (by omega)]
theorem clr_ent {s l D : List Int} {k q : Int} (hk : 0 ≤ k) (hs : ∀ x ∈ s, 0 ≤ x ∧ x < k) (hp : l.Perm (fstL s)) (hn : 0 < s.length) (q0 : 0 ≤ q) (hq : q < s.length) (hD : D = clrP s (itL s k l s.length).1 q) : rd D q = -1 ∨ (0 ≤ rd D q ∧ rd D q < s.length) := by
  rw [hD, rd_clrP q0 (Int.le_refl _) q0 (by rw [itL_len hk hs hp hn]; omega)]
  exact clr_mem hk hs hp hn q0 hq
theorem clr_done {s l D : List Int} {k q : Int} (hk : 0 ≤ k) (hs : ∀ x ∈ s, 0 ≤ x ∧ x < k) (hp : l.Perm (fstL s)) (hn : 0 < s.length) (hq : (s.length : Int) ≤ q) (hD : D = clrP s (itL s k l s.length).1 q) : D = (itS s k l 0).1 := by
  rw [hD, clrP_all (by rw [itL_len hk hs hp hn]; exact hq)]
  rfl
/-! (*whorl/induce.sorter).smalls -/
set_option maxRecDepth 100000 in
theorem smalls_ct {B : Nat} {w0 : World} {R : List Row} {g_x : Nat} {A_s A_m A_c A_r : Option Addr} {c_s c_m c_c c_r : Nat} {s l : List Int} {k : Int} (h_x : RdC B w0 R (some ⟨g_x, 0, none⟩) 1 1 4 [.slice A_s s.length c_s, .slice A_m s.length c_m, .slice A_c k.toNat c_c, .slice A_r s.length c_r]) (h_s : RdC B w0 R A_s s.length c_s 1 (ints .i64 s)) (h_m : RdC B w0 R A_m s.length c_m 1 (bools (smL s))) (h_c : RdC B w0 R A_c k.toNat c_c 1 (ints .i64 (cntV s k))) (hk : 0 ≤ k ∧ k ≤ 1048576) (hs : ∀ x ∈ s, 0 ≤ x ∧ x < k) (hN : s.length ≤ 1000000) (hp : l.Perm (fstL s)) (hn : 0 < s.length) :
    Ct Try.prog 55 #[.pointer (some ⟨g_x, 0, none⟩)] B w0 (⟨3, 1, A_r, s.length, c_r, ints .i64 ((itL s k l s.length).1), false⟩ :: R) (fun v R' => v = .tuple #[] ∧ R' = ⟨3, 1, A_r, s.length, c_r, ints .i64 (indS s k l), false⟩ :: R) := by
  refine fn0 Try.func55 rfl rfl rfl ?_
  have hLl := itL_len hk.1 hs hp hn
  refine w_seq ?_
  refine w_seq ?_
  refine w_reg ?_
  refine wr_y rfl (y_move rfl) ?_
  refine wr_y rfl (y_nilCheck rfl) ?_
  refine wr_y rfl (y_fieldAt (off := 3) (m := 3) Try.underlying58 rfl sz22 rfl rfl rfl) ?_
  refine wr_y rfl (y_ldIn (RdC.right h_x [_]) Try.underlying22 rfl rfl rfl) ?_
  refine wr_y rfl (y_len Try.underlying22 rfl) ?_
  refine wr_y rfl (y_move rfl) ?_
  refine wr_nil ?_
  refine w_block ?_
  refine w_loop2 (fun (q : Int) (D : List Int) => [(0, .pointer (some ⟨g_x, 0, none⟩)), (10, .slice A_r s.length c_r), (11, .int .i64 ((s.length : Nat) : Int)), (12, .int .i64 q)]) (fun (q : Int) (D : List Int) => (⟨3, 1, A_r, s.length, c_r, ints .i64 D, false⟩ :: R)) (fun (q : Int) (D : List Int) => (0 ≤ q) ∧ (q ≤ s.length) ∧ (D = clrP s (itL s k l s.length).1 q)) (fun (q : Int) (D : List Int) => (s.length - q).toNat) ?_ ?_
  ·
    exact ⟨0, (itL s k l s.length).1, ⟨(by omega), (by omega), (clrP_zero.symm)⟩, (Sub.cons rfl (Sub.cons rfl (Sub.cons rfl (Sub.cons rfl Sub.nil)))), fun _ h => h⟩
  intro q D ⟨hq0, hq1, hD⟩
  refine w_seq ?_
  refine w_reg ?_
  refine wr_y rfl (y_lt rfl rfl) ?_
  refine wr_nil ?_
  refine w_seq ?_
  refine w_if rfl (fun hc1 => ?_) (fun hc1 => ?_)
  ·
    have hf1 := clr_ent hk.1 hs hp hn hq0 (by omega) hD
    have hDl : D.length = s.length := by rw [hD, clrP_len, itL_len hk.1 hs hp hn]
    refine w_skip ?_
    refine w_seq ?_
    refine w_block ?_
    refine w_seq ?_
    refine w_reg ?_
    refine wr_y rfl (y_move rfl) ?_
    refine wr_y rfl (y_index1 Try.underlying22 sz3 rfl rfl (rdr 0 rfl) (by omega) (by omega)) ?_
    refine wr_y rfl (y_ldI Try.underlying3 rfl rfl (rdr 0 rfl) (by omega) (by omega)) ?_
    refine wr_y rfl (y_assign rfl) ?_
    refine wr_y rfl (y_assign rfl) ?_
    refine wr_nil ?_
    refine w_seq ?_
    refine w_reg ?_
    refine wr_y rfl (y_move rfl) ?_
    refine wr_y rfl (y_ge rfl rfl) ?_
    refine wr_y rfl (y_move rfl) ?_
    refine wr_mid 8 [(0, .pointer (some ⟨g_x, 0, none⟩)), (2, .int .i64 q), (10, .slice A_r s.length c_r), (11, .int .i64 ((s.length : Nat) : Int)), (12, .int .i64 q), (27, .bool (decide ((0 ≤ (rd D q)) ∧ (rdb (smL s) (rd D q) = true))))] (⟨3, 1, A_r, s.length, c_r, ints .i64 D, false⟩ :: R) ?_ ?_
    ·
      refine wr_case 19 rfl (fun hc2 => ?_) (fun hc2 => ?_)
      ·
        refine wr_yes rfl rfl ?_
        refine wr_y rfl (y_move rfl) ?_
        refine wr_yes rfl rfl ?_
        refine wr_y rfl (y_nilCheck rfl) ?_
        refine wr_yes rfl rfl ?_
        refine wr_y rfl (y_fieldAt (off := 1) (m := 1) Try.underlying58 rfl sz55 rfl rfl rfl) ?_
        refine wr_yes rfl rfl ?_
        refine wr_y rfl (y_ldIn (RdC.right h_x [_]) Try.underlying55 rfl rfl rfl) ?_
        refine wr_yes rfl rfl ?_
        refine wr_y rfl (y_move rfl) ?_
        refine wr_yes rfl rfl ?_
        refine wr_y rfl (y_index1 Try.underlying55 sz4 rfl rfl (RdC.right h_m [_]) (by omega) (by omega)) ?_
        refine wr_yes rfl rfl ?_
        refine wr_y rfl (y_ldB Try.underlying4 rfl rfl (RdC.right h_m [_]) (by omega) (by omega)) ?_
        refine wr_y rfl (y_pickT rfl rfl) ?_
        refine wr_nil ?_
        exact ⟨(Sub.cons rfl (Sub.cons rfl (Sub.cons rfl (Sub.cons rfl (Sub.cons rfl (Sub.to rfl (mb (by first | omega | exact ⟨fun h => ⟨(by assumption), h⟩, fun h => h.2⟩ | simp [*])) Sub.nil)))))), fun _ h => h⟩
      ·
        refine wr_no rfl rfl rfl rfl ?_
        refine wr_no rfl rfl rfl rfl ?_
        refine wr_no rfl rfl rfl rfl ?_
        refine wr_no rfl rfl rfl rfl ?_
        refine wr_no rfl rfl rfl rfl ?_
        refine wr_no rfl rfl rfl rfl ?_
        refine wr_no rfl rfl rfl rfl ?_
        refine wr_y rfl (y_pickF rfl rfl) ?_
        refine wr_nil ?_
        exact ⟨(Sub.cons rfl (Sub.cons rfl (Sub.cons rfl (Sub.cons rfl (Sub.cons rfl (Sub.to rfl (mb_f (by first | omega | exact ⟨fun h => ⟨(by assumption), h⟩, fun h => h.2⟩ | simp [*])) Sub.nil)))))), fun _ h => h⟩
    refine wr_nil ?_
    refine w_if rfl (fun hc3 => ?_) (fun hc3 => ?_)
    ·
      refine w_reg ?_
      refine wr_y rfl (y_move rfl) ?_
      refine wr_y rfl (y_nilCheck rfl) ?_
      refine wr_y rfl (y_fieldAt (off := 3) (m := 3) Try.underlying58 rfl sz22 rfl rfl rfl) ?_
      refine wr_y rfl (y_ldIn (RdC.right h_x [_]) Try.underlying22 rfl rfl rfl) ?_
      refine wr_y rfl (y_move rfl) ?_
      refine wr_y rfl (y_index1 Try.underlying22 sz3 rfl rfl (rdr 0 rfl) (by omega) (by omega)) ?_
      refine wr_n (a_storeI 0 rfl sz3 rfl rfl (by omega) (by omega)) ?_
      rintro _ _ rfl
      refine wr_rows (R1 := (⟨3, 1, A_r, s.length, c_r, ints .i64 (upd D q (-1)), false⟩ :: R)) rfl ?_
      refine wr_nil ?_
      refine w_reg ?_
      refine wr_y rfl (y_addI rfl rfl (by omega)) ?_
      refine wr_y rfl (y_move rfl) ?_
      refine wr_nil ?_
      exact ⟨q + 1, upd D q (-1), ⟨(by omega), (by omega), (by rw [hD]; exact clr_yes hq0 (by omega) (by rw [← hD]; exact (cl_C hf1).1 hc3))⟩, (by omega), (Sub.cons rfl (Sub.cons rfl (Sub.cons rfl (Sub.cons rfl Sub.nil)))), fun _ h => h⟩
    ·
      refine w_skip ?_
      refine w_reg ?_
      refine wr_y rfl (y_addI rfl rfl (by omega)) ?_
      refine wr_y rfl (y_move rfl) ?_
      refine wr_nil ?_
      exact ⟨q + 1, D, ⟨(by omega), (by omega), (by rw [hD]; exact clr_no hq0 (by omega) (by rw [← hD]; exact fun h => hc3 ((cl_C hf1).2 h)))⟩, (by omega), (Sub.cons rfl (Sub.cons rfl (Sub.cons rfl (Sub.cons rfl Sub.nil)))), fun _ h => h⟩
  ·
    have hD0 := clr_done hk.1 hs hp hn (by omega) hD
    refine w_exit ?_
    refine w_seq ?_
    refine w_reg ?_
    refine wr_y rfl (y_move rfl) ?_
    refine wr_a rfl (a_callF en51 rfl (ends_ct (RdC.right h_x [_]) (RdC.right h_c [_]) hk hs hN)) ?_
    rintro _ _ ⟨A_1, c_2, rfl, rfl⟩
    refine wr_y rfl (y_assign rfl) ?_
    refine wr_nil ?_
    refine w_seq ?_
    refine w_reg ?_
    refine wr_y rfl (y_move rfl) ?_
    refine wr_y rfl (y_nilCheck rfl) ?_
    refine wr_y rfl (y_fieldAt (off := 3) (m := 3) Try.underlying58 rfl sz22 rfl rfl rfl) ?_
    refine wr_y rfl (y_ldIn (RdC.right h_x [_, _]) Try.underlying22 rfl rfl rfl) ?_
    refine wr_y rfl (y_len Try.underlying22 rfl) ?_
    refine wr_y rfl (y_subI rfl rfl (by omega)) ?_
    refine wr_y rfl (y_assign rfl) ?_
    refine wr_nil ?_
    refine w_block ?_
    refine w_loop3 (fun (i : Int) (D : List Int) (H : List Int) => [(0, .pointer (some ⟨g_x, 0, none⟩)), (4, .slice A_1 k.toNat c_2), (5, .int .i64 i)]) (fun (i : Int) (D : List Int) (H : List Int) => (⟨3, 1, A_1, k.toNat, c_2, ints .i64 H, false⟩ :: ⟨3, 1, A_r, s.length, c_r, ints .i64 D, false⟩ :: R)) (fun (i : Int) (D : List Int) (H : List Int) => (-1 ≤ i) ∧ (i < s.length) ∧ (D = (itS s k l (s.length - 1 - i).toNat).1) ∧ (H = (itS s k l (s.length - 1 - i).toNat).2)) (fun (i : Int) (D : List Int) (H : List Int) => (i + 1).toNat) ?_ ?_
    ·
      exact ⟨((s.length : Nat) : Int) - 1, D, endsV (cntV s k), ⟨(by omega), (by omega), (by rw [show ((s.length : Int) - 1 - (((s.length : Nat) : Int) - 1)).toNat = 0 by omega]; exact hD0), (by rw [show ((s.length : Int) - 1 - (((s.length : Nat) : Int) - 1)).toNat = 0 by omega]; rfl)⟩, (Sub.cons rfl (Sub.cons rfl (Sub.cons rfl Sub.nil))), fun _ h => h⟩
    intro i D H ⟨hi0, hi1, hD, hH⟩
    refine w_seq ?_
    refine w_seq ?_
    refine w_reg ?_
    refine wr_y rfl (y_move rfl) ?_
    refine wr_y rfl (y_ge rfl rfl) ?_
    refine wr_nil ?_
    refine w_if rfl (fun hc4 => ?_) (fun hc4 => ?_)
    ·
      have hf := fSeZ hk.1 hs hp hn (by omega) (by omega) hD hH
      have hf1 := hf.1
      refine w_skip ?_
      refine w_seq ?_
      refine w_block ?_
      refine w_seq ?_
      refine w_reg ?_
      refine wr_y rfl (y_move rfl) ?_
      refine wr_y rfl (y_nilCheck rfl) ?_
      refine wr_y rfl (y_fieldAt (off := 3) (m := 3) Try.underlying58 rfl sz22 rfl rfl rfl) ?_
      refine wr_y rfl (y_ldIn (RdC.right h_x [_, _]) Try.underlying22 rfl rfl rfl) ?_
      refine wr_y rfl (y_move rfl) ?_
      refine wr_y rfl (y_index1 Try.underlying22 sz3 rfl rfl (rdr 1 rfl) (by omega) (by omega)) ?_
      refine wr_y rfl (y_ldI Try.underlying3 rfl rfl (rdr 1 rfl) (by omega) (by omega)) ?_
      refine wr_y rfl (y_assign rfl) ?_
      refine wr_nil ?_
      refine w_seq ?_
      refine w_reg ?_
      refine wr_y rfl (y_move rfl) ?_
      refine wr_y rfl (y_gt rfl rfl) ?_
      refine wr_y rfl (y_move rfl) ?_
      refine wr_mid 9 [(0, .pointer (some ⟨g_x, 0, none⟩)), (4, .slice A_1 k.toNat c_2), (5, .int .i64 i), (6, .int .i64 (rd D i)), (65, .bool (decide ((0 < (rd D i)) ∧ (rdb (smL s) ((rd D i) - 1) = true))))] (⟨3, 1, A_1, k.toNat, c_2, ints .i64 H, false⟩ :: ⟨3, 1, A_r, s.length, c_r, ints .i64 D, false⟩ :: R) ?_ ?_
      ·
        refine wr_case 56 rfl (fun hc5 => ?_) (fun hc5 => ?_)
        ·
          refine wr_yes rfl rfl ?_
          refine wr_y rfl (y_move rfl) ?_
          refine wr_yes rfl rfl ?_
          refine wr_y rfl (y_nilCheck rfl) ?_
          refine wr_yes rfl rfl ?_
          refine wr_y rfl (y_fieldAt (off := 1) (m := 1) Try.underlying58 rfl sz55 rfl rfl rfl) ?_
          refine wr_yes rfl rfl ?_
          refine wr_y rfl (y_ldIn (RdC.right h_x [_, _]) Try.underlying55 rfl rfl rfl) ?_
          refine wr_yes rfl rfl ?_
          refine wr_y rfl (y_move rfl) ?_
          refine wr_yes rfl rfl ?_
          refine wr_y rfl (y_subI rfl rfl (by omega)) ?_
          refine wr_yes rfl rfl ?_
          refine wr_y rfl (y_index1 Try.underlying55 sz4 rfl rfl (RdC.right h_m [_, _]) (by omega) (by omega)) ?_
          refine wr_yes rfl rfl ?_
          refine wr_y rfl (y_ldB Try.underlying4 rfl rfl (RdC.right h_m [_, _]) (by omega) (by omega)) ?_
          refine wr_y rfl (y_pickT rfl rfl) ?_
          refine wr_nil ?_
          exact ⟨(Sub.cons rfl (Sub.cons rfl (Sub.cons rfl (Sub.cons rfl (Sub.to rfl (mb (by first | omega | exact ⟨fun h => ⟨(by assumption), h⟩, fun h => h.2⟩ | simp [*])) Sub.nil))))), fun _ h => h⟩
        ·
          refine wr_no rfl rfl rfl rfl ?_
          refine wr_no rfl rfl rfl rfl ?_
          refine wr_no rfl rfl rfl rfl ?_
          refine wr_no rfl rfl rfl rfl ?_
          refine wr_no rfl rfl rfl rfl ?_
          refine wr_no rfl rfl rfl rfl ?_
          refine wr_no rfl rfl rfl rfl ?_
          refine wr_no rfl rfl rfl rfl ?_
          refine wr_y rfl (y_pickF rfl rfl) ?_
          refine wr_nil ?_
          exact ⟨(Sub.cons rfl (Sub.cons rfl (Sub.cons rfl (Sub.cons rfl (Sub.to rfl (mb_f (by first | omega | exact ⟨fun h => ⟨(by assumption), h⟩, fun h => h.2⟩ | simp [*])) Sub.nil))))), fun _ h => h⟩
      refine wr_nil ?_
      refine w_if rfl (fun hc6 => ?_) (fun hc6 => ?_)
      ·
        obtain ⟨g1, g2, g3, g4, g5⟩ := fSZ hk.1 hs hp hn (by omega) (by omega) hD hH hc6
        refine w_reg ?_
        refine wr_y rfl (y_move rfl) ?_
        refine wr_y rfl (y_move rfl) ?_
        refine wr_y rfl (y_move rfl) ?_
        refine wr_y rfl (y_subI rfl rfl (by omega)) ?_
        refine wr_sub (R1 := (⟨3, 1, A_r, s.length, c_r, ints .i64 D, false⟩ :: ⟨3, 1, A_1, k.toNat, c_2, ints .i64 H, false⟩ :: R)) (Sub.refl _) (fun _ h => h.selR (F := [_, _]) (F' := [_, _]) [1, 0] (by decide) rfl) ?_
        refine wr_a rfl (a_callF en53 rfl (lay_ct (row := D) (E := H) (j := ((rd D i) - 1)) (RdC.right h_x []) (RdC.right h_s []) hk hN ⟨by omega, by omega⟩ g2 ⟨hf.2.1, hf.2.2, rfl⟩ g3)) ?_
        rintro _ _ ⟨rfl, rfl⟩
        refine wr_rows (R1 := (⟨3, 1, A_r, s.length, c_r, ints .i64 (upd D ((rd H (rd s ((rd D i) - 1))) - 1) ((rd D i) - 1)), false⟩ :: ⟨3, 1, A_1, k.toNat, c_2, ints .i64 (upd H (rd s ((rd D i) - 1)) ((rd H (rd s ((rd D i) - 1))) - 1)), false⟩ :: R)) rfl ?_
        refine wr_nil ?_
        refine w_reg ?_
        refine wr_y rfl (y_move rfl) ?_
        refine wr_y rfl (y_subI rfl rfl (by omega)) ?_
        refine wr_y rfl (y_assign rfl) ?_
        refine wr_nil ?_
        exact ⟨i - 1, upd D ((rd H (rd s ((rd D i) - 1))) - 1) ((rd D i) - 1), upd H (rd s ((rd D i) - 1)) ((rd H (rd s ((rd D i) - 1))) - 1), ⟨(by omega), (by omega), (g4), (g5)⟩, (by omega), (Sub.cons rfl (Sub.cons rfl (Sub.cons rfl Sub.nil))), fun _ h => h.selR (F := [_, _]) (F' := [_, _]) [1, 0] (by decide) rfl⟩
      ·
        have g4 := fSsZ hk.1 hs hp hn (by omega) (by omega) hD hH hc6
        refine w_skip ?_
        refine w_reg ?_
        refine wr_y rfl (y_move rfl) ?_
        refine wr_y rfl (y_subI rfl rfl (by omega)) ?_
        refine wr_y rfl (y_assign rfl) ?_
        refine wr_nil ?_
        exact ⟨i - 1, D, H, ⟨(by omega), (by omega), (g4.1), (g4.2)⟩, (by omega), (Sub.cons rfl (Sub.cons rfl (Sub.cons rfl Sub.nil))), fun _ h => h⟩
    ·
      refine w_sub (R1 := (⟨3, 1, A_r, s.length, c_r, ints .i64 D, false⟩ :: R)) (Sub.refl _) (fun _ h => h.selR (F := [_, _]) (F' := [_]) [1] (by decide) rfl) ?_
      have hie : ((s.length : Int) - 1 - i).toNat = s.length := by omega
      rw [hie] at hD
      subst hD
      refine w_exit ?_
      exact ⟨rfl, rfl⟩

theorem fstL_sorted (s : List Int) : (fstL s).Pairwise (· ≤ ·) := by
  unfold fstL iota
  exact ((List.pairwise_map.2 (List.pairwise_lt_range.imp fun h => by omega)).sublist List.filter_sublist)
theorem sortL_fst {s l : List Int} : sortL l = fstL s ↔ l.Perm (fstL s) := by
  constructor
  · intro h
    rw [← h]
    exact (sortL_perm l).symm
  · intro h
    exact ((sortL_perm l).trans h).eq_of_pairwise (fun a b _ _ h1 h2 => Int.le_antisymm h1 h2) (sortL_sorted l) (fstL_sorted s)
theorem fFZ {s l D H : List Int} {k : Int} (hk : 0 ≤ k) (hs : ∀ x ∈ s, 0 ≤ x ∧ x < k) (hp : l.Perm (fstL s)) {m : Nat} (hm : m < l.length) (hr : D = (itF s k (l.drop (l.length - m))).1) (hE : H = (itF s k (l.drop (l.length - m))).2) :
    (0 ≤ rd l ((l.length - 1 - m : Nat) : Int) ∧ rd l ((l.length - 1 - m : Nat) : Int) < s.length) ∧ (0 ≤ rd s (rd l ((l.length - 1 - m : Nat) : Int)) ∧ rd s (rd l ((l.length - 1 - m : Nat) : Int)) < k) ∧ (0 ≤ rd H (rd s (rd l ((l.length - 1 - m : Nat) : Int))) - 1 ∧ rd H (rd s (rd l ((l.length - 1 - m : Nat) : Int))) - 1 < s.length) ∧ (D.length = s.length ∧ H.length = k.toNat) ∧
    upd D (rd H (rd s (rd l ((l.length - 1 - m : Nat) : Int))) - 1) (rd l ((l.length - 1 - m : Nat) : Int)) = (itF s k (l.drop (l.length - (m + 1)))).1 ∧ upd H (rd s (rd l ((l.length - 1 - m : Nat) : Int))) (rd H (rd s (rd l ((l.length - 1 - m : Nat) : Int))) - 1) = (itF s k (l.drop (l.length - (m + 1)))).2 := by
  have e : l.length - 1 - m + 1 = l.length - m := by omega
  have h := fF (row := D) (E := H) hk hs hp (m := l.length - 1 - m) (by omega) (by rw [e]; exact hr) (by rw [e]; exact hE)
  rwa [show l.length - (m + 1) = l.length - 1 - m by omega]
theorem fst_len_le {s l : List Int} (hp : l.Perm (fstL s)) : l.length ≤ s.length := by rw [hp.length_eq]; exact fstL_len
/-! whorl/induce.Sort -/
set_option maxRecDepth 100000 in
set_option maxHeartbeats 2000000 in
theorem sort_ct {w : World} {A_s : Option Addr} {n_s c_s : Nat} {s : List Int} {k : Int} {A_l : Option Addr} {n_l c_l : Nat} {l : List Int} (h_s : Rd w A_s n_s c_s 1 (ints .i64 s)) (h_l : Rd w A_l n_l c_l 1 (ints .i64 l)) (hok : (0 ≤ k ∧ k ≤ 1048576) ∧ ∀ x ∈ s, 0 ≤ x ∧ x < k) (hp : l.Perm (fstL s)) (hN : s.length ≤ 1000000) :
    Ct Try.prog 27 #[.slice A_s n_s c_s, .int .i64 k, .slice A_l n_l c_l] w.heap.size w [] (fun v R' => ∃ A c, v = .tuple #[.slice A s.length c, .bool true] ∧ R' = [⟨3, 1, A, s.length, c, ints .i64 (indS s k l), false⟩]) := by
  obtain rfl := h_s.lenI
  obtain rfl := h_l.lenI
  refine fnV Try.func27 rfl rfl ?_
  have m_s := h_s.max
  have m_l := h_l.max
  have hk := hok.1
  have hs := hok.2
  have hll := fst_len_le hp
  have hcl : (cntV s k).length = k.toNat := cntV_len _ _
  refine v_seqW ?_
  refine w_reg ?_
  refine wr_y rfl (y_assign rfl) ?_
  refine wr_y rfl (y_assign rfl) ?_
  refine wr_nil ?_
  refine v_seqW ?_
  refine w_reg ?_
  refine wr_y rfl (y_move rfl) ?_
  refine wr_y rfl (y_move rfl) ?_
  refine wr_a rfl (a_callF en38 rfl (Ct.fresh (fun w hw => countsOk_ct ((h_s.c _) w hw) (by first | assumption | omega | decide)))) ?_
  rintro _ _ ⟨_, rfl, A_1, c_2, rfl, rfl⟩
  refine wr_y rfl (y_move rfl) ?_
  refine wr_y rfl (y_extract rfl rfl) ?_
  refine wr_y rfl (y_extract rfl rfl) ?_
  refine wr_y rfl (y_assign rfl) ?_
  refine wr_y rfl (y_assign rfl) ?_
  refine wr_nil ?_
  refine v_seqW ?_
  refine w_reg ?_
  refine wr_y rfl (y_move rfl) ?_
  refine wr_a rfl (a_callF en46 rfl (values_ct)) ?_
  rintro _ _ ⟨g_3, rfl, rfl⟩
  refine wr_a rfl (a_callF en45 rfl (Ct.fresh (fun w hw => sorted_ct ((h_l.c _) w hw) ((rdR 0 (r := ⟨22, 1, (some ⟨g_3, 0, none⟩), 1, 1, [.slice A_l l.length c_l], false⟩) rfl) w hw) (by omega)))) ?_
  rintro _ _ ⟨_, rfl, A_5, c_6, rfl, rfl⟩
  refine wr_y rfl (y_assign rfl) ?_
  refine wr_nil ?_
  refine v_seqW ?_
  refine w_seq ?_
  refine w_reg ?_
  refine wr_y rfl (y_move rfl) ?_
  refine wr_y rfl (y_not rfl) ?_
  refine wr_y rfl (y_move rfl) ?_
  refine wr_yes rfl rfl ?_
  refine wr_y rfl (y_move rfl) ?_
  refine wr_yes rfl rfl ?_
  refine wr_y rfl (y_move rfl) ?_
  refine wr_yes rfl rfl ?_
  refine wr_a rfl (a_callF en48 rfl (Ct.fresh (fun w hw => first_ct ((h_s.c _) w hw) (by first | assumption | omega | decide)))) ?_
  rintro _ _ ⟨_, rfl, A_8, c_9, rfl, rfl⟩
  refine wr_yes rfl rfl ?_
  refine wr_a rfl (a_callF en47 rfl (Ct.quiet (fun w hw => equalI_ct ((rdr 1 rfl) w hw) ((rdr 0 rfl) w hw) (by rw [(sortL_perm l).length_eq]; omega)))) ?_
  rintro _ _ ⟨rfl, rfl⟩
  refine wr_setT 30 rfl (sortL_fst.2 hp) ?_
  refine wr_yes rfl rfl ?_
  refine wr_y rfl (y_not rfl) ?_
  refine wr_y rfl (y_pickF rfl rfl) ?_
  refine wr_nil ?_
  refine w_false rfl ?_
  refine w_skip ?_
  refine v_seqW ?_
  refine w_seq ?_
  refine w_reg ?_
  refine wr_y rfl (y_move rfl) ?_
  refine wr_y rfl (y_len Try.underlying22 rfl) ?_
  refine wr_y rfl (y_eq rfl rfl) ?_
  refine wr_nil ?_
  refine w_if rfl (fun hc1 => ?_) (fun hc1 => ?_)
  ·
    refine w_seq ?_
    refine w_reg ?_
    refine wr_a rfl (a_litI .i64 [] Try.underlying22 zs3 rfl rfl rfl) ?_
    rintro _ _ ⟨g_12, rfl, rfl⟩
    refine wr_y rfl (y_assign rfl) ?_
    refine wr_y rfl (y_assign rfl) ?_
    refine wr_nil ?_
    refine w_retR (R1 := [⟨3, 1, (some ⟨g_12, 0, none⟩), 0, 0, ints .i64 ([]), false⟩]) (fun _ h => h.sel [0] (by decide) rfl) ?_
    refine fin2 rfl Gd.refl ⟨_, _, rfl, rfl, ?_⟩
    have e : s = [] := List.eq_nil_of_length_eq_zero (by omega)
    subst e
    rw [indS_nil hp]
    exact ⟨_, _, rfl, rfl⟩
  ·
    have hn : 0 < s.length := by omega
    refine w_skip ?_
    refine v_seqW ?_
    refine w_reg ?_
    refine wr_y rfl (y_move rfl) ?_
    refine wr_y rfl (y_move rfl) ?_
    refine wr_a rfl (a_callF en49 rfl (Ct.fresh (fun w hw => small_ct ((h_s.c _) w hw) (by first | assumption | omega | decide)))) ?_
    rintro _ _ ⟨_, rfl, A_13, c_14, rfl, rfl⟩
    refine wr_y rfl (y_move rfl) ?_
    refine wr_a rfl (a_litI .i64 [-1] Try.underlying22 zs3 rfl rfl rfl) ?_
    rintro _ _ ⟨g_16, rfl, rfl⟩
    refine wr_y rfl (y_move rfl) ?_
    refine wr_y rfl (y_len Try.underlying22 rfl) ?_
    refine wr_a rfl (a_callF en50 rfl (Ct.fresh (fun w hw => repeatI_ct ((rdr 0 rfl) w hw) rfl rfl ⟨by omega, by omega⟩))) ?_
    rintro _ _ ⟨_, rfl, A_17, c_18, rfl, rfl⟩
    refine wr_y rfl (y_build (v := .agg #[.slice A_s s.length c_s, .slice A_13 s.length c_14, .slice A_1 ((k).toNat) c_2, .slice A_17 s.length c_18]) rfl (fun w => by kernel_rfl)) ?_
    refine wr_a rfl (a_box (sz := 4) rfl rfl) ?_
    rintro _ _ ⟨g_19, rfl, rfl⟩
    refine wr_rows (R1 := [⟨58, 4, (some ⟨g_19, 0, none⟩), 1, 1, [.slice A_s s.length c_s, .slice A_13 s.length c_14, .slice A_1 ((k).toNat) c_2, .slice A_17 s.length c_18], false⟩, ⟨3, 1, A_17, s.length, c_18, ints .i64 (List.replicate s.length ((-1) : Int)), false⟩, ⟨3, 1, (some ⟨g_16, 0, none⟩), 1, 1, ints .i64 ([-1]), false⟩, ⟨4, 1, A_13, s.length, c_14, bools (smL s), false⟩, ⟨3, 1, A_8, (fstL s).length, c_9, ints .i64 (fstL s), false⟩, ⟨3, 1, A_5, (sortL l).length, c_6, ints .i64 (sortL l), false⟩, ⟨22, 1, (some ⟨g_3, 0, none⟩), 1, 1, [.slice A_l l.length c_l], false⟩, ⟨3, 1, A_1, ((k).toNat), c_2, ints .i64 (cntV s k), false⟩]) rfl ?_
    refine wr_a rfl (a_alloc (sz := 1) zz54 rfl) ?_
    rintro _ _ ⟨g_21, rfl, rfl⟩
    refine wr_rows (R1 := [⟨54, 1, (some ⟨g_21, 0, none⟩), 1, 1, [.pointer none], false⟩, ⟨58, 4, (some ⟨g_19, 0, none⟩), 1, 1, [.slice A_s s.length c_s, .slice A_13 s.length c_14, .slice A_1 ((k).toNat) c_2, .slice A_17 s.length c_18], false⟩, ⟨3, 1, A_17, s.length, c_18, ints .i64 (List.replicate s.length ((-1) : Int)), false⟩, ⟨3, 1, (some ⟨g_16, 0, none⟩), 1, 1, ints .i64 ([-1]), false⟩, ⟨4, 1, A_13, s.length, c_14, bools (smL s), false⟩, ⟨3, 1, A_8, (fstL s).length, c_9, ints .i64 (fstL s), false⟩, ⟨3, 1, A_5, (sortL l).length, c_6, ints .i64 (sortL l), false⟩, ⟨22, 1, (some ⟨g_3, 0, none⟩), 1, 1, [.slice A_l l.length c_l], false⟩, ⟨3, 1, A_1, ((k).toNat), c_2, ints .i64 (cntV s k), false⟩]) rfl ?_
    refine wr_n (a_storeAt 0 rfl rfl rfl sz54 rfl rfl rfl rfl (Nat.le_of_ble_eq_true rfl)) ?_
    rintro _ _ rfl
    refine wr_rows (R1 := [⟨54, 1, (some ⟨g_21, 0, none⟩), 1, 1, [.pointer (some ⟨g_19, 0, none⟩)], false⟩, ⟨58, 4, (some ⟨g_19, 0, none⟩), 1, 1, [.slice A_s s.length c_s, .slice A_13 s.length c_14, .slice A_1 ((k).toNat) c_2, .slice A_17 s.length c_18], false⟩, ⟨3, 1, A_17, s.length, c_18, ints .i64 (List.replicate s.length ((-1) : Int)), false⟩, ⟨3, 1, (some ⟨g_16, 0, none⟩), 1, 1, ints .i64 ([-1]), false⟩, ⟨4, 1, A_13, s.length, c_14, bools (smL s), false⟩, ⟨3, 1, A_8, (fstL s).length, c_9, ints .i64 (fstL s), false⟩, ⟨3, 1, A_5, (sortL l).length, c_6, ints .i64 (sortL l), false⟩, ⟨22, 1, (some ⟨g_3, 0, none⟩), 1, 1, [.slice A_l l.length c_l], false⟩, ⟨3, 1, A_1, ((k).toNat), c_2, ints .i64 (cntV s k), false⟩]) rfl ?_
    refine wr_nil ?_
    refine v_seqW ?_
    refine w_reg ?_
    refine wr_y rfl (y_ldIn (rdR 0 (r := ⟨54, 1, (some ⟨g_21, 0, none⟩), 1, 1, [.pointer (some ⟨g_19, 0, none⟩)], false⟩) rfl) Try.underlying54 rfl rfl rfl) ?_
    refine wr_a rfl (a_callF en51 rfl (ends_ct (rdR 1 (r := ⟨58, 4, (some ⟨g_19, 0, none⟩), 1, 1, [.slice A_s s.length c_s, .slice A_13 s.length c_14, .slice A_1 ((k).toNat) c_2, .slice A_17 s.length c_18], false⟩) rfl) (rdr 8 rfl) hk hs hN)) ?_
    rintro _ _ ⟨A_22, c_23, rfl, rfl⟩
    refine wr_a rfl (a_alloc (sz := 1) zz22 rfl) ?_
    rintro _ _ ⟨g_25, rfl, rfl⟩
    refine wr_rows (R1 := [⟨22, 1, (some ⟨g_25, 0, none⟩), 1, 1, [.slice none 0 0], false⟩, ⟨3, 1, A_22, k.toNat, c_23, ints .i64 (endsV (cntV s k)), false⟩, ⟨54, 1, (some ⟨g_21, 0, none⟩), 1, 1, [.pointer (some ⟨g_19, 0, none⟩)], false⟩, ⟨58, 4, (some ⟨g_19, 0, none⟩), 1, 1, [.slice A_s s.length c_s, .slice A_13 s.length c_14, .slice A_1 ((k).toNat) c_2, .slice A_17 s.length c_18], false⟩, ⟨3, 1, A_17, s.length, c_18, ints .i64 (List.replicate s.length ((-1) : Int)), false⟩, ⟨3, 1, (some ⟨g_16, 0, none⟩), 1, 1, ints .i64 ([-1]), false⟩, ⟨4, 1, A_13, s.length, c_14, bools (smL s), false⟩, ⟨3, 1, A_8, (fstL s).length, c_9, ints .i64 (fstL s), false⟩, ⟨3, 1, A_5, (sortL l).length, c_6, ints .i64 (sortL l), false⟩, ⟨22, 1, (some ⟨g_3, 0, none⟩), 1, 1, [.slice A_l l.length c_l], false⟩, ⟨3, 1, A_1, ((k).toNat), c_2, ints .i64 (cntV s k), false⟩]) rfl ?_
    refine wr_n (a_storeAt 0 rfl rfl rfl sz22 rfl rfl rfl rfl (Nat.le_of_ble_eq_true rfl)) ?_
    rintro _ _ rfl
    refine wr_rows (R1 := [⟨22, 1, (some ⟨g_25, 0, none⟩), 1, 1, [.slice A_22 k.toNat c_23], false⟩, ⟨3, 1, A_22, k.toNat, c_23, ints .i64 (endsV (cntV s k)), false⟩, ⟨54, 1, (some ⟨g_21, 0, none⟩), 1, 1, [.pointer (some ⟨g_19, 0, none⟩)], false⟩, ⟨58, 4, (some ⟨g_19, 0, none⟩), 1, 1, [.slice A_s s.length c_s, .slice A_13 s.length c_14, .slice A_1 ((k).toNat) c_2, .slice A_17 s.length c_18], false⟩, ⟨3, 1, A_17, s.length, c_18, ints .i64 (List.replicate s.length ((-1) : Int)), false⟩, ⟨3, 1, (some ⟨g_16, 0, none⟩), 1, 1, ints .i64 ([-1]), false⟩, ⟨4, 1, A_13, s.length, c_14, bools (smL s), false⟩, ⟨3, 1, A_8, (fstL s).length, c_9, ints .i64 (fstL s), false⟩, ⟨3, 1, A_5, (sortL l).length, c_6, ints .i64 (sortL l), false⟩, ⟨22, 1, (some ⟨g_3, 0, none⟩), 1, 1, [.slice A_l l.length c_l], false⟩, ⟨3, 1, A_1, ((k).toNat), c_2, ints .i64 (cntV s k), false⟩]) rfl ?_
    refine wr_nil ?_
    refine v_seq ?_
    refine v_seqW ?_
    refine w_reg ?_
    refine wr_y rfl (y_move rfl) ?_
    refine wr_a rfl (a_callF en52 rfl (backward_ct)) ?_
    rintro _ _ ⟨g_26, rfl, rfl⟩
    refine wr_nil ?_
    refine v_block ?_
    refine v_range2 rfl en70 (back0_ints (A := A_l) (c := c_l) (zs := l) (by omega)) rfl (fun _ => rfl) Gd.refl (fun (kr : Nat) (D : List Int) (H : List Int) => [⟨22, 1, (some ⟨g_26, 0, none⟩), 1, 1, [.slice A_l l.length c_l], false⟩, ⟨22, 1, (some ⟨g_25, 0, none⟩), 1, 1, [.slice A_22 k.toNat c_23], false⟩, ⟨3, 1, A_22, k.toNat, c_23, ints .i64 H, false⟩, ⟨54, 1, (some ⟨g_21, 0, none⟩), 1, 1, [.pointer (some ⟨g_19, 0, none⟩)], false⟩, ⟨58, 4, (some ⟨g_19, 0, none⟩), 1, 1, [.slice A_s s.length c_s, .slice A_13 s.length c_14, .slice A_1 ((k).toNat) c_2, .slice A_17 s.length c_18], false⟩, ⟨3, 1, A_17, s.length, c_18, ints .i64 D, false⟩, ⟨3, 1, (some ⟨g_16, 0, none⟩), 1, 1, ints .i64 ([-1]), false⟩, ⟨4, 1, A_13, s.length, c_14, bools (smL s), false⟩, ⟨3, 1, A_8, (fstL s).length, c_9, ints .i64 (fstL s), false⟩, ⟨3, 1, A_5, (sortL l).length, c_6, ints .i64 (sortL l), false⟩, ⟨22, 1, (some ⟨g_3, 0, none⟩), 1, 1, [.slice A_l l.length c_l], false⟩, ⟨3, 1, A_1, ((k).toNat), c_2, ints .i64 (cntV s k), false⟩]) (fun (kr : Nat) (D : List Int) (H : List Int) => (D = (itF s k (l.drop (l.length - kr))).1) ∧ (H = (itF s k (l.drop (l.length - kr))).2)) ?_ ?_ ?_ ?_
    ·
      exact ⟨List.replicate s.length ((-1) : Int), endsV (cntV s k), ⟨(by rw [Nat.sub_zero, List.drop_length]; rfl), (by rw [Nat.sub_zero, List.drop_length]; rfl)⟩, fun _ h => h⟩
    ·
      intro kr D H w ⟨hD, hH⟩ hw
      exact ⟨(rdR 0 (r := ⟨22, 1, (some ⟨g_26, 0, none⟩), 1, 1, [.slice A_l l.length c_l], false⟩) rfl) w hw, (h_l.c _) w hw⟩
    ·
      intro lr kr D H WW2 hkr ⟨hD, hH⟩ hbW2
      obtain ⟨f1, f2, f3, f4, f5, f6⟩ := fFZ hk.1 hs hp hkr hD hH
      refine w_reg ?_
      refine wr_y rfl (y_assign rfl) ?_
      refine wr_nil ?_
      intro WW23 hbW23
      refine w_block ?_
      refine w_reg ?_
      refine wr_y rfl (y_ldIn (rdR 3 (r := ⟨54, 1, (some ⟨g_21, 0, none⟩), 1, 1, [.pointer (some ⟨g_19, 0, none⟩)], false⟩) rfl) Try.underlying54 rfl rfl rfl) ?_
      refine wr_y rfl (y_ldIn (rdR 1 (r := ⟨22, 1, (some ⟨g_25, 0, none⟩), 1, 1, [.slice A_22 k.toNat c_23], false⟩) rfl) Try.underlying22 rfl rfl rfl) ?_
      refine wr_y rfl (y_move rfl) ?_
      refine wr_sub (R1 := [⟨3, 1, A_17, s.length, c_18, ints .i64 D, false⟩, ⟨3, 1, A_22, k.toNat, c_23, ints .i64 H, false⟩, ⟨22, 1, (some ⟨g_26, 0, none⟩), 1, 1, [.slice A_l l.length c_l], false⟩, ⟨22, 1, (some ⟨g_25, 0, none⟩), 1, 1, [.slice A_22 k.toNat c_23], false⟩, ⟨54, 1, (some ⟨g_21, 0, none⟩), 1, 1, [.pointer (some ⟨g_19, 0, none⟩)], false⟩, ⟨58, 4, (some ⟨g_19, 0, none⟩), 1, 1, [.slice A_s s.length c_s, .slice A_13 s.length c_14, .slice A_1 ((k).toNat) c_2, .slice A_17 s.length c_18], false⟩, ⟨3, 1, (some ⟨g_16, 0, none⟩), 1, 1, ints .i64 ([-1]), false⟩, ⟨4, 1, A_13, s.length, c_14, bools (smL s), false⟩, ⟨3, 1, A_8, (fstL s).length, c_9, ints .i64 (fstL s), false⟩, ⟨3, 1, A_5, (sortL l).length, c_6, ints .i64 (sortL l), false⟩, ⟨22, 1, (some ⟨g_3, 0, none⟩), 1, 1, [.slice A_l l.length c_l], false⟩, ⟨3, 1, A_1, ((k).toNat), c_2, ints .i64 (cntV s k), false⟩]) (Sub.refl _) (fun _ h => h.sel [5, 2, 0, 1, 3, 4, 6, 7, 8, 9, 10, 11] (by decide) rfl) ?_
      refine wr_a rfl (a_callF en53 rfl (lay_ct (row := D) (E := H) (j := (rd l ((l.length - 1 - kr : Nat) : Int))) (rdR 3 (r := ⟨58, 4, (some ⟨g_19, 0, none⟩), 1, 1, [.slice A_s s.length c_s, .slice A_13 s.length c_14, .slice A_1 ((k).toNat) c_2, .slice A_17 s.length c_18], false⟩) rfl) (h_s.cb hbW23 _) hk hN f1 f2 ⟨f4.1, f4.2, rfl⟩ f3)) ?_
      rintro _ _ ⟨rfl, rfl⟩
      refine wr_rows (R1 := [⟨3, 1, A_17, s.length, c_18, ints .i64 (upd D ((rd H (rd s (rd l ((l.length - 1 - kr : Nat) : Int)))) - 1) (rd l ((l.length - 1 - kr : Nat) : Int))), false⟩, ⟨3, 1, A_22, k.toNat, c_23, ints .i64 (upd H (rd s (rd l ((l.length - 1 - kr : Nat) : Int))) ((rd H (rd s (rd l ((l.length - 1 - kr : Nat) : Int)))) - 1)), false⟩, ⟨22, 1, (some ⟨g_26, 0, none⟩), 1, 1, [.slice A_l l.length c_l], false⟩, ⟨22, 1, (some ⟨g_25, 0, none⟩), 1, 1, [.slice A_22 k.toNat c_23], false⟩, ⟨54, 1, (some ⟨g_21, 0, none⟩), 1, 1, [.pointer (some ⟨g_19, 0, none⟩)], false⟩, ⟨58, 4, (some ⟨g_19, 0, none⟩), 1, 1, [.slice A_s s.length c_s, .slice A_13 s.length c_14, .slice A_1 ((k).toNat) c_2, .slice A_17 s.length c_18], false⟩, ⟨3, 1, (some ⟨g_16, 0, none⟩), 1, 1, ints .i64 ([-1]), false⟩, ⟨4, 1, A_13, s.length, c_14, bools (smL s), false⟩, ⟨3, 1, A_8, (fstL s).length, c_9, ints .i64 (fstL s), false⟩, ⟨3, 1, A_5, (sortL l).length, c_6, ints .i64 (sortL l), false⟩, ⟨22, 1, (some ⟨g_3, 0, none⟩), 1, 1, [.slice A_l l.length c_l], false⟩, ⟨3, 1, A_1, ((k).toNat), c_2, ints .i64 (cntV s k), false⟩]) rfl ?_
      refine wr_nil ?_
      exact ⟨upd D ((rd H (rd s (rd l ((l.length - 1 - kr : Nat) : Int)))) - 1) (rd l ((l.length - 1 - kr : Nat) : Int)), upd H (rd s (rd l ((l.length - 1 - kr : Nat) : Int))) ((rd H (rd s (rd l ((l.length - 1 - kr : Nat) : Int)))) - 1), ⟨(f5), (f6)⟩, fun _ => fun _ h => h.sel [2, 3, 1, 4, 5, 0, 6, 7, 8, 9, 10, 11] (by decide) rfl⟩
    intro WW25 DW2 D H ⟨hD, hH⟩ hbW25 hGW25
    rw [Nat.sub_self, List.drop_zero] at hD
    refine v_goB ?_
    refine v_go ?_
    refine v_w ?_
    refine w_seq ?_
    refine w_reg ?_
    refine wr_y rfl (y_ldIn (rdR 3 (r := ⟨54, 1, (some ⟨g_21, 0, none⟩), 1, 1, [.pointer (some ⟨g_19, 0, none⟩)], false⟩) rfl) Try.underlying54 rfl rfl rfl) ?_
    refine wr_sub (R1 := [⟨3, 1, A_17, s.length, c_18, ints .i64 D, false⟩, ⟨22, 1, (some ⟨g_26, 0, none⟩), 1, 1, [.slice A_l l.length c_l], false⟩, ⟨22, 1, (some ⟨g_25, 0, none⟩), 1, 1, [.slice A_22 k.toNat c_23], false⟩, ⟨3, 1, A_22, k.toNat, c_23, ints .i64 H, false⟩, ⟨54, 1, (some ⟨g_21, 0, none⟩), 1, 1, [.pointer (some ⟨g_19, 0, none⟩)], false⟩, ⟨58, 4, (some ⟨g_19, 0, none⟩), 1, 1, [.slice A_s s.length c_s, .slice A_13 s.length c_14, .slice A_1 ((k).toNat) c_2, .slice A_17 s.length c_18], false⟩, ⟨3, 1, (some ⟨g_16, 0, none⟩), 1, 1, ints .i64 ([-1]), false⟩, ⟨4, 1, A_13, s.length, c_14, bools (smL s), false⟩, ⟨3, 1, A_8, (fstL s).length, c_9, ints .i64 (fstL s), false⟩, ⟨3, 1, A_5, (sortL l).length, c_6, ints .i64 (sortL l), false⟩, ⟨22, 1, (some ⟨g_3, 0, none⟩), 1, 1, [.slice A_l l.length c_l], false⟩, ⟨3, 1, A_1, ((k).toNat), c_2, ints .i64 (cntV s k), false⟩]) (Sub.refl _) (fun _ h => h.sel [5, 0, 1, 2, 3, 4, 6, 7, 8, 9, 10, 11] (by decide) rfl) ?_
    refine wr_a rfl (a_callF en54 rfl (large_ct (row := D) (rdR 4 (r := ⟨58, 4, (some ⟨g_19, 0, none⟩), 1, 1, [.slice A_s s.length c_s, .slice A_13 s.length c_14, .slice A_1 ((k).toNat) c_2, .slice A_17 s.length c_18], false⟩) rfl) (h_s.cb hbW25 _) (rdr 6 rfl) (rdr 10 rfl) hk hs hN hp hn hD)) ?_
    rintro _ _ ⟨rfl, rfl⟩
    refine wr_rows (R1 := [⟨3, 1, A_17, s.length, c_18, ints .i64 ((itL s k l s.length).1), false⟩, ⟨22, 1, (some ⟨g_26, 0, none⟩), 1, 1, [.slice A_l l.length c_l], false⟩, ⟨22, 1, (some ⟨g_25, 0, none⟩), 1, 1, [.slice A_22 k.toNat c_23], false⟩, ⟨3, 1, A_22, k.toNat, c_23, ints .i64 H, false⟩, ⟨54, 1, (some ⟨g_21, 0, none⟩), 1, 1, [.pointer (some ⟨g_19, 0, none⟩)], false⟩, ⟨58, 4, (some ⟨g_19, 0, none⟩), 1, 1, [.slice A_s s.length c_s, .slice A_13 s.length c_14, .slice A_1 ((k).toNat) c_2, .slice A_17 s.length c_18], false⟩, ⟨3, 1, (some ⟨g_16, 0, none⟩), 1, 1, ints .i64 ([-1]), false⟩, ⟨4, 1, A_13, s.length, c_14, bools (smL s), false⟩, ⟨3, 1, A_8, (fstL s).length, c_9, ints .i64 (fstL s), false⟩, ⟨3, 1, A_5, (sortL l).length, c_6, ints .i64 (sortL l), false⟩, ⟨22, 1, (some ⟨g_3, 0, none⟩), 1, 1, [.slice A_l l.length c_l], false⟩, ⟨3, 1, A_1, ((k).toNat), c_2, ints .i64 (cntV s k), false⟩]) rfl ?_
    refine wr_nil ?_
    refine w_seq ?_
    refine w_reg ?_
    refine wr_y rfl (y_ldIn (rdR 4 (r := ⟨54, 1, (some ⟨g_21, 0, none⟩), 1, 1, [.pointer (some ⟨g_19, 0, none⟩)], false⟩) rfl) Try.underlying54 rfl rfl rfl) ?_
    refine wr_a rfl (a_callF en55 rfl (smalls_ct (rdR 4 (r := ⟨58, 4, (some ⟨g_19, 0, none⟩), 1, 1, [.slice A_s s.length c_s, .slice A_13 s.length c_14, .slice A_1 ((k).toNat) c_2, .slice A_17 s.length c_18], false⟩) rfl) (h_s.cb hbW25 _) (rdr 6 rfl) (rdr 10 rfl) hk hs hN hp hn)) ?_
    rintro _ _ ⟨rfl, rfl⟩
    refine wr_rows (R1 := [⟨3, 1, A_17, s.length, c_18, ints .i64 (indS s k l), false⟩, ⟨22, 1, (some ⟨g_26, 0, none⟩), 1, 1, [.slice A_l l.length c_l], false⟩, ⟨22, 1, (some ⟨g_25, 0, none⟩), 1, 1, [.slice A_22 k.toNat c_23], false⟩, ⟨3, 1, A_22, k.toNat, c_23, ints .i64 H, false⟩, ⟨54, 1, (some ⟨g_21, 0, none⟩), 1, 1, [.pointer (some ⟨g_19, 0, none⟩)], false⟩, ⟨58, 4, (some ⟨g_19, 0, none⟩), 1, 1, [.slice A_s s.length c_s, .slice A_13 s.length c_14, .slice A_1 ((k).toNat) c_2, .slice A_17 s.length c_18], false⟩, ⟨3, 1, (some ⟨g_16, 0, none⟩), 1, 1, ints .i64 ([-1]), false⟩, ⟨4, 1, A_13, s.length, c_14, bools (smL s), false⟩, ⟨3, 1, A_8, (fstL s).length, c_9, ints .i64 (fstL s), false⟩, ⟨3, 1, A_5, (sortL l).length, c_6, ints .i64 (sortL l), false⟩, ⟨22, 1, (some ⟨g_3, 0, none⟩), 1, 1, [.slice A_l l.length c_l], false⟩, ⟨3, 1, A_1, ((k).toNat), c_2, ints .i64 (cntV s k), false⟩]) rfl ?_
    refine wr_nil ?_
    refine w_seq ?_
    refine w_reg ?_
    refine wr_y rfl (y_ldIn (rdR 4 (r := ⟨54, 1, (some ⟨g_21, 0, none⟩), 1, 1, [.pointer (some ⟨g_19, 0, none⟩)], false⟩) rfl) Try.underlying54 rfl rfl rfl) ?_
    refine wr_y rfl (y_nilCheck rfl) ?_
    refine wr_y rfl (y_fieldAt (off := 3) (m := 3) Try.underlying58 rfl sz22 rfl rfl rfl) ?_
    refine wr_y rfl (y_ldIn (rdR 5 (r := ⟨58, 4, (some ⟨g_19, 0, none⟩), 1, 1, [.slice A_s s.length c_s, .slice A_13 s.length c_14, .slice A_1 ((k).toNat) c_2, .slice A_17 s.length c_18], false⟩) rfl) Try.underlying22 rfl rfl rfl) ?_
    refine wr_y rfl (y_assign rfl) ?_
    refine wr_y rfl (y_assign rfl) ?_
    refine wr_nil ?_
    refine w_retR (R1 := [⟨3, 1, A_17, s.length, c_18, ints .i64 (indS s k l), false⟩]) (fun _ h => h.sel [0] (by decide) rfl) ?_
    refine fin2 rfl hGW25 ⟨_, _, rfl, rfl, ?_⟩
    exact ⟨_, _, rfl, rfl⟩

end Go.Proofs.Ytlagmdccneompaa
