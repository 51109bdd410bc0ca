/- Walks of Go functions, printed by a program of our own. -/
import Derived.Test.YtdfcnalkdlifiaaH1
import Derived.Test.YtdfcnalkdlifiaaF11
import Derived.Test.YtdfcnalkdlifiaaV2
import Derived.Test.YtdfcnalkdlifiaaQ31
namespace Go.Proofs.Ytdfcnalkdlifiaa
open Go Go.Eng Go.Pure
set_option linter.unusedVariables false
/-! slices.Backward[[][]int,[]int] -/
set_option maxRecDepth 100000 in
theorem backRows_ct {B : Nat} {w0 : World} {R : List Row} {A_s : Option Addr} {n_s c_s : Nat} :
    Ct Try.prog 50 #[.slice A_s n_s c_s] B w0 R (fun v R' => ∃ g, v = .func (.func 76) #[] #[.pointer (some ⟨g, 0, none⟩)] ∧ R' = ⟨62, 1, some ⟨g, 0, none⟩, 1, 1, [.slice A_s n_s c_s], false⟩ :: R) := by
  refine fn1 Try.func50 rfl rfl rfl ?_
  refine w_seq ?_
  refine w_reg ?_
  refine wr_a rfl (a_box (sz := 1) rfl rfl) ?_
  rintro _ _ ⟨g, rfl, rfl⟩
  refine wr_y rfl (y_assign rfl) ?_
  refine wr_nil ?_
  refine w_seq ?_
  refine w_reg ?_
  refine wr_y rfl (y_makeFunc rfl rfl) ?_
  refine wr_y rfl (y_assign rfl) ?_
  refine wr_nil ?_
  refine w_ret ?_
  exact ⟨_, rfl, g, rfl, rfl⟩

/-! slices.Backward[[]int,int] -/
set_option maxRecDepth 100000 in
theorem backInts_ct {B : Nat} {w0 : World} {R : List Row} {A_s : Option Addr} {n_s c_s : Nat} :
    Ct Try.prog 51 #[.slice A_s n_s c_s] B w0 R (fun v R' => ∃ g, v = .func (.func 77) #[] #[.pointer (some ⟨g, 0, none⟩)] ∧ R' = ⟨35, 1, some ⟨g, 0, none⟩, 1, 1, [.slice A_s n_s c_s], false⟩ :: R) := by
  refine fn1 Try.func51 rfl rfl rfl ?_
  refine w_seq ?_
  refine w_reg ?_
  refine wr_a rfl (a_box (sz := 1) rfl rfl) ?_
  rintro _ _ ⟨g, rfl, rfl⟩
  refine wr_y rfl (y_assign rfl) ?_
  refine wr_nil ?_
  refine w_seq ?_
  refine w_reg ?_
  refine wr_y rfl (y_makeFunc rfl rfl) ?_
  refine wr_y rfl (y_assign rfl) ?_
  refine wr_nil ?_
  refine w_ret ?_
  exact ⟨_, rfl, g, rfl, rfl⟩

/-! whorl/whorlref22.Word -/
set_option maxRecDepth 100000 in
theorem word22_ct {w : World} {A_l : Option Addr} {n_l c_l : Nat} {l : List Int} {A_cy : Option Addr} {n_cy c_cy : Nat} {cy : List Int} (h_l : Rd w A_l n_l c_l 1 (ints .u8 l)) (h_cy : Rd w A_cy n_cy c_cy 1 (ints .i64 cy)) (hin : ∀ x ∈ cy, 0 ≤ x ∧ x < l.length) (hN : cy.length ≤ 1000000) :
    Ct Try.prog 54 #[.slice A_l n_l c_l, .slice A_cy n_cy c_cy] w.heap.size w [] (fun v R' => ∃ A c, v = .slice A (wordC l cy).length c ∧ R' = [⟨5, 1, A, (wordC l cy).length, c, ints .u8 (wordC l cy), false⟩]) := by
  obtain rfl := h_l.lenI
  obtain rfl := h_cy.lenI
  refine fn1 Try.func54 rfl rfl rfl ?_
  have m_l := h_l.max
  have m_cy := h_cy.max
  refine w_seq ?_
  refine w_reg ?_
  refine wr_y rfl (y_assign rfl) ?_
  refine wr_nil ?_
  refine w_seq ?_
  refine w_reg ?_
  refine wr_sub (R1 := [⟨5, 1, none, 0, 0, ints .u8 ([]), false⟩]) (Sub.refl _) (fun _ h => h.nil 5 1) ?_
  refine wr_y rfl (y_assign rfl) ?_
  refine wr_nil ?_
  refine w_seq ?_
  refine w_seq ?_
  refine w_reg ?_
  refine wr_y rfl (y_move rfl) ?_
  refine wr_y rfl (y_len Try.underlying35 rfl) ?_
  refine wr_y rfl (y_subI rfl rfl (by omega)) ?_
  refine wr_y rfl (y_assign rfl) ?_
  refine wr_nil ?_
  refine w_block ?_
  refine w_loop5 (fun (A1 : Option Addr) (n1 : Nat) (c1 : Nat) (acc : List Int) (k : Int) => [(0, .slice A_l l.length c_l), (1, .slice A_cy cy.length c_cy), (5, .slice A1 n1 c1), (6, .int .i64 k)]) (fun (A1 : Option Addr) (n1 : Nat) (c1 : Nat) (acc : List Int) (k : Int) => [⟨5, 1, A1, n1, c1, ints .u8 acc, false⟩]) (fun (A1 : Option Addr) (n1 : Nat) (c1 : Nat) (acc : List Int) (k : Int) => (n1 = acc.length) ∧ (-1 ≤ k) ∧ (k < cy.length) ∧ (acc = ((cy.reverse).take (cy.length - 1 - k).toNat).map (rd l))) (fun (A1 : Option Addr) (n1 : Nat) (c1 : Nat) (acc : List Int) (k : Int) => (k + 1).toNat) ?_ ?_
  ·
    exact ⟨none, 0, 0, [], ((cy.length : Nat) : Int) - 1, ⟨(rfl), (by omega), (by omega), (by rw [show ((cy.length : Int) - 1 - (((cy.length : Nat) : Int) - 1)).toNat = 0 by omega]; rfl)⟩, (Sub.cons rfl (Sub.cons rfl (Sub.cons rfl (Sub.cons rfl Sub.nil)))), fun _ h => h⟩
  intro A1 n1 c1 acc k ⟨hn1, hk0, hk1, hacc⟩
  have hal := congrArg List.length hacc
  rw [List.length_map, List.length_take, List.length_reverse] at hal
  have hck : 0 ≤ k → 0 ≤ rd cy k ∧ rd cy k < l.length := fun h => hin _ (rd_mem h hk1)
  refine w_seq ?_
  refine w_seq ?_
  refine w_reg ?_
  refine wr_y rfl (y_move rfl) ?_
  refine wr_y rfl (y_ge rfl rfl) ?_
  refine wr_nil ?_
  refine w_if rfl (fun hc1 => ?_) (fun hc1 => ?_)
  ·
    have hck2 := hck (by omega)
    refine w_skip ?_
    refine w_seq ?_
    refine w_block ?_
    refine w_reg ?_
    refine wr_y rfl (y_move rfl) ?_
    refine wr_y rfl (y_move rfl) ?_
    refine wr_y rfl (y_move rfl) ?_
    refine wr_y rfl (y_move rfl) ?_
    refine wr_y rfl (y_index1 Try.underlying35 sz3 rfl rfl (h_cy.c _) (by omega) (by omega)) ?_
    refine wr_y rfl (y_ldI Try.underlying3 rfl rfl (h_cy.c _) (by omega) (by omega)) ?_
    refine wr_y rfl (y_index1 Try.underlying22 sz5 rfl rfl (h_l.c _) (by omega) (by omega)) ?_
    refine wr_y rfl (y_ldI Try.underlying5 rfl rfl (h_l.c _) (by omega) (by omega)) ?_
    refine wr_a rfl (a_litI .u8 [rd l (rd cy k)] Try.underlying22 zs5 rfl rfl rfl) ?_
    rintro _ _ ⟨g_2, rfl, rfl⟩
    refine wr_a rfl (a_appendI 1 rfl Try.underlying22 zb5 rfl rfl rfl (rdr 0 rfl) (by omega)) ?_
    rintro _ _ ⟨A_3, c_4, rfl, rfl⟩
    refine wr_rows (R1 := [⟨5, 1, (some ⟨g_2, 0, none⟩), 1, 1, ints .u8 ([rd l (rd cy k)]), false⟩, ⟨5, 1, A_3, (n1 + 1), c_4, ints .u8 (acc ++ ([rd l (rd cy k)])), false⟩]) rfl ?_
    refine wr_as (v := .slice A_3 (n1 + 1) c_4) rfl ?_
    refine wr_y rfl (y_assign rfl) ?_
    refine wr_nil ?_
    refine w_reg ?_
    refine wr_y rfl (y_move rfl) ?_
    refine wr_y rfl (y_subI rfl rfl (by omega)) ?_
    refine wr_y rfl (y_assign rfl) ?_
    refine wr_nil ?_
    exact ⟨A_3, n1 + 1, c_4, acc ++ ([rd l (rd cy k)]), k - 1, ⟨(by rw [List.length_append, hn1]; try rfl), (by omega), (by omega), (word_stepI (by omega) hk1 hacc)⟩, (by omega), (Sub.cons rfl (Sub.cons rfl (Sub.cons rfl (Sub.cons rfl Sub.nil)))), fun _ h => h.sel [1] (by decide) rfl⟩
  ·
    refine w_exit ?_
    refine w_seq ?_
    refine w_reg ?_
    refine wr_y rfl (y_move rfl) ?_
    refine wr_y rfl (y_assign rfl) ?_
    refine wr_nil ?_
    refine w_retR (R1 := [⟨5, 1, A1, n1, c1, ints .u8 acc, false⟩]) (fun _ h => h.sel [0] (by decide) rfl) ?_
    refine ⟨_, rfl, ?_⟩
    rw [show ((cy.length : Int) - 1 - k).toNat = cy.length by omega, List.take_of_length_le (by rw [List.length_reverse]; exact Nat.le_refl _)] at hacc
    obtain rfl : acc = wordC l cy := hacc
    obtain rfl := hn1
    exact ⟨_, _, rfl, rfl⟩

/-! whorl/whorlref23.Back -/
set_option maxRecDepth 100000 in
set_option maxHeartbeats 1000000 in
theorem back23_ct {w : World} {A_u : Option Addr} {n_u c_u : Nat} {u : List Int} (h_u : Rd w A_u n_u c_u 1 (ints .u8 u)) (bh_u : ByteL u) (hN : u.length ≤ 1000000) :
    Ct Try.prog 32 #[.slice A_u n_u c_u] w.heap.size w [] (fun v R' => ∃ A c, v = .slice A (backL u (cycL (fsL u))).length c ∧ R' = [⟨5, 1, A, (backL u (cycL (fsL u))).length, c, ints .u8 (backL u (cycL (fsL u))), false⟩]) := by
  obtain rfl := h_u.lenI
  refine fn1 Try.func32 rfl rfl rfl ?_
  have m_u := h_u.max
  have hfp := fsL_perm bh_u
  have hfl := fsL_len u
  have hcl := cycL_len hfp
  have hcf := cyc_count (p := fsL u)
  refine w_seq ?_
  refine w_reg ?_
  refine wr_y rfl (y_assign rfl) ?_
  refine wr_nil ?_
  refine w_seq ?_
  refine w_reg ?_
  refine wr_y rfl (y_move rfl) ?_
  refine wr_a rfl (a_callF en53 rfl (Ct.fresh (fun w hw => lfOf22_ct ((h_u.c _) w hw) bh_u hN))) ?_
  rintro _ _ ⟨_, rfl, A_1, c_2, rfl, rfl⟩
  refine wr_a rfl (a_callF en52 rfl (Ct.fresh (fun w hw => cycles22_ct ((rdr 0 rfl) w hw) hfp (by omega)))) ?_
  rintro _ _ ⟨_, rfl, A_4, c_5, vals_6, Rs_7, rfl, hsl_8, rfl⟩
  have hn_hsl_8 := hsl_8.1
  refine wr_sub (R1 := (⟨35, 1, A_4, vals_6.length, c_5, vals_6, false⟩ :: ⟨3, 1, A_1, (fsL u).length, c_2, ints .i64 (fsL u), false⟩ :: Rs_7)) (Sub.refl _) (fun _ h => Hp.toTail0 (X := [_]) (Y := [_]) h) ?_
  refine wr_y rfl (y_move rfl) ?_
  refine wr_y rfl (y_extract rfl rfl) ?_
  refine wr_y rfl (y_extract rfl rfl) ?_
  refine wr_y rfl (y_assign rfl) ?_
  refine wr_y rfl (y_assign rfl) ?_
  refine wr_nil ?_
  refine w_seq ?_
  refine w_reg ?_
  refine wr_sub (R1 := (⟨5, 1, none, 0, 0, ints .u8 ([]), false⟩ :: ⟨35, 1, A_4, vals_6.length, c_5, vals_6, false⟩ :: ⟨3, 1, A_1, (fsL u).length, c_2, ints .i64 (fsL u), false⟩ :: Rs_7)) (Sub.refl _) (fun _ h => h.nil 5 1) ?_
  refine wr_y rfl (y_assign rfl) ?_
  refine wr_nil ?_
  refine w_seq ?_
  refine w_seq ?_
  refine w_reg ?_
  refine wr_y rfl (y_move rfl) ?_
  refine wr_y rfl (y_len Try.underlying62 rfl) ?_
  refine wr_y rfl (y_subI rfl rfl (by omega)) ?_
  refine wr_y rfl (y_assign rfl) ?_
  refine wr_nil ?_
  refine w_block ?_
  refine w_loop5 (fun (A1 : Option Addr) (n1 : Nat) (c1 : Nat) (acc : List Int) (k : Int) => [(0, .slice A_u u.length c_u), (3, .slice A_4 vals_6.length c_5), (5, .slice A1 n1 c1), (6, .int .i64 k)]) (fun (A1 : Option Addr) (n1 : Nat) (c1 : Nat) (acc : List Int) (k : Int) => (⟨5, 1, A1, n1, c1, ints .u8 acc, false⟩ :: ⟨35, 1, A_4, vals_6.length, c_5, vals_6, false⟩ :: ⟨3, 1, A_1, (fsL u).length, c_2, ints .i64 (fsL u), false⟩ :: Rs_7)) (fun (A1 : Option Addr) (n1 : Nat) (c1 : Nat) (acc : List Int) (k : Int) => (n1 = acc.length) ∧ (-1 ≤ k) ∧ (k < vals_6.length) ∧ (acc = (((cycL (fsL u)).reverse.take ((cycL (fsL u)).length - 1 - k).toNat).map (wordC u)).flatten)) (fun (A1 : Option Addr) (n1 : Nat) (c1 : Nat) (acc : List Int) (k : Int) => (k + 1).toNat) ?_ ?_
  ·
    exact ⟨none, 0, 0, [], ((vals_6.length : Nat) : Int) - 1, ⟨(rfl), (by omega), (by omega), (by rw [← hsl_8.1, show ((vals_6.length : Int) - 1 - (((vals_6.length : Nat) : Int) - 1)).toNat = 0 by omega]; rfl)⟩, (Sub.cons rfl (Sub.cons rfl (Sub.cons rfl (Sub.cons rfl Sub.nil)))), fun _ h => h⟩
  intro A1 n1 c1 acc k ⟨hn1, hk0, hk1, hacc⟩
  have hvl := hsl_8.1
  have hal : acc.length ≤ u.length := by rw [hacc]; exact Nat.le_trans flat_len_le (by omega)
  have hwl : 0 ≤ k → (rdl (cycL (fsL u)) k).length ≤ u.length := fun h => by
    have := List.Sublist.length_le (List.sublist_flatten_of_mem (cyc_mem h (by omega : k < (cycL (fsL u)).length)))
    omega
  refine w_seq ?_
  refine w_seq ?_
  refine w_reg ?_
  refine wr_y rfl (y_move rfl) ?_
  refine wr_y rfl (y_ge rfl rfl) ?_
  refine wr_nil ?_
  refine w_if rfl (fun hc1 => ?_) (fun hc1 => ?_)
  ·
    have hwl2 := hwl (by omega)
    refine w_skip ?_
    refine w_seq ?_
    refine w_block ?_
    refine w_reg ?_
    refine wr_y rfl (y_move rfl) ?_
    refine wr_y rfl (y_move rfl) ?_
    refine wr_y rfl (y_move rfl) ?_
    refine wr_y rfl (y_move rfl) ?_
    refine wr_y rfl (y_index1 Try.underlying62 sz35 rfl rfl (rdr 1 rfl) (by omega) (by omega)) ?_
    obtain ⟨A_10, c_11, hv_12, hr_13⟩ := hsl_8.at (i := k) (by omega) (by omega)
    refine wr_y rfl (y_ld Try.underlying35 rfl rfl rfl (rdr 1 rfl) hv_12) ?_
    refine wr_a rfl (a_callF en54 rfl (Ct.fresh (fun w hw => word22_ct ((h_u.c _) w hw) ((fun _ h => hr_13 _ _ _ (h.right (R' := [_, _, _]))) w hw) (fun x hx => by have := cycL_in hfp _ (cyc_mem (by omega) (by omega)) x hx; omega) (by omega)))) ?_
    rintro _ _ ⟨_, rfl, A_14, c_15, rfl, rfl⟩
    refine wr_a rfl (a_appendI 1 rfl Try.underlying22 zb5 rfl rfl rfl (rdr 0 rfl) (by rw [wordC_len]; omega)) ?_
    rintro _ _ ⟨A_17, c_18, rfl, rfl⟩
    refine wr_rows (R1 := (⟨5, 1, A_14, (wordC u (rdl (cycL (fsL u)) k)).length, c_15, ints .u8 (wordC u (rdl (cycL (fsL u)) k)), false⟩ :: ⟨5, 1, A_17, (n1 + ((wordC u (rdl (cycL (fsL u)) k)).length)), c_18, ints .u8 (acc ++ (wordC u (rdl (cycL (fsL u)) k))), false⟩ :: ⟨35, 1, A_4, vals_6.length, c_5, vals_6, false⟩ :: ⟨3, 1, A_1, (fsL u).length, c_2, ints .i64 (fsL u), false⟩ :: Rs_7)) rfl ?_
    refine wr_as (v := .slice A_17 (n1 + ((wordC u (rdl (cycL (fsL u)) k)).length)) c_18) rfl ?_
    refine wr_y rfl (y_assign rfl) ?_
    refine wr_nil ?_
    refine w_reg ?_
    refine wr_y rfl (y_move rfl) ?_
    refine wr_y rfl (y_subI rfl rfl (by omega)) ?_
    refine wr_y rfl (y_assign rfl) ?_
    refine wr_nil ?_
    exact ⟨A_17, n1 + ((wordC u (rdl (cycL (fsL u)) k)).length), c_18, acc ++ (wordC u (rdl (cycL (fsL u)) k)), k - 1, ⟨(by rw [List.length_append, hn1]; try rfl), (by omega), (by omega), (back_stepI (by omega) (by omega) hacc)⟩, (by omega), (Sub.cons rfl (Sub.cons rfl (Sub.cons rfl (Sub.cons rfl Sub.nil)))), fun _ h => h.selR (F := [_, _, _, _]) (F' := [_, _, _]) [1, 2, 3] (by decide) rfl⟩
  ·
    refine w_exit ?_
    refine w_seq ?_
    refine w_reg ?_
    refine wr_y rfl (y_move rfl) ?_
    refine wr_y rfl (y_assign rfl) ?_
    refine wr_nil ?_
    refine w_retR (R1 := [⟨5, 1, A1, n1, c1, ints .u8 acc, false⟩]) (fun _ h => (h.selR (F := [_, _, _]) (F' := [_]) [0] (by decide) rfl).left (X := [_])) ?_
    refine ⟨_, rfl, ?_⟩
    rw [show (((cycL (fsL u)).length : Int) - 1 - k).toNat = (cycL (fsL u)).length by omega, List.take_of_length_le (by rw [List.length_reverse]; exact Nat.le_refl _)] at hacc
    obtain rfl : acc = backL u (cycL (fsL u)) := hacc
    obtain rfl := hn1
    exact ⟨_, _, rfl, rfl⟩

/-! whorl/bij.Back -/
set_option maxRecDepth 100000 in
set_option maxHeartbeats 2000000 in
theorem bijBack_ct {w : World} {A_u : Option Addr} {n_u c_u : Nat} {u : List Int} (h_u : Rd w A_u n_u c_u 1 (ints .u8 u)) (bh_u : ByteL u) (hN : u.length ≤ 100000) :
    Ct Try.prog 31 #[.slice A_u n_u c_u] w.heap.size w [] (fun v R' => ∃ A c, v = .tuple #[.slice A (backL u (cycL (fsL u))).length c, .int .i64 0] ∧ R' = [⟨5, 1, A, (backL u (cycL (fsL u))).length, c, ints .u8 (backL u (cycL (fsL u))), false⟩]) := by
  obtain rfl := h_u.lenI
  refine fnV Try.func31 rfl rfl ?_
  have m_u := h_u.max
  have hfp := fsL_perm bh_u
  have hfl := fsL_len u
  have hcl := cycL_len hfp
  have hcf := cyc_count (p := fsL u)
  refine v_seqW ?_
  refine w_reg ?_
  refine wr_a rfl (a_box (sz := 1) rfl rfl) ?_
  rintro _ _ ⟨g_1, rfl, rfl⟩
  refine wr_rows (R1 := [⟨22, 1, (some ⟨g_1, 0, none⟩), 1, 1, [.slice A_u u.length c_u], false⟩]) rfl ?_
  refine wr_y rfl (y_assign rfl) ?_
  refine wr_y rfl (y_assign rfl) ?_
  refine wr_nil ?_
  refine v_seqW ?_
  refine w_seq ?_
  refine w_reg ?_
  refine wr_y rfl (y_ldIn (rdR 0 (r := ⟨22, 1, (some ⟨g_1, 0, none⟩), 1, 1, [.slice A_u u.length c_u], false⟩) rfl) Try.underlying22 rfl rfl rfl) ?_
  refine wr_y rfl (y_len Try.underlying22 rfl) ?_
  refine wr_y rfl (Yl.f (y_gt rfl rfl) (by omega)) ?_
  refine wr_nil ?_
  refine w_false rfl ?_
  refine w_skip ?_
  refine v_seqW ?_
  refine w_reg ?_
  refine wr_y rfl (y_ldIn (rdR 0 (r := ⟨22, 1, (some ⟨g_1, 0, none⟩), 1, 1, [.slice A_u u.length c_u], false⟩) rfl) Try.underlying22 rfl rfl rfl) ?_
  refine wr_a rfl (a_callF en49 rfl (Ct.fresh (fun w hw => lfOf_ct ((h_u.c _) w hw) bh_u (by omega)))) ?_
  rintro _ _ ⟨_, rfl, A_3, c_4, rfl, rfl⟩
  refine wr_a rfl (a_callF en48 rfl (Ct.fresh (fun w hw => cycles_ct ((rdr 0 rfl) w hw) hfp (by omega)))) ?_
  rintro _ _ ⟨_, rfl, A_6, c_7, vals_8, Rs_9, rfl, hsl_10, rfl⟩
  have hn_hsl_10 := hsl_10.1
  refine wr_sub (R1 := (⟨35, 1, A_6, vals_8.length, c_7, vals_8, false⟩ :: ⟨3, 1, A_3, (fsL u).length, c_4, ints .i64 (fsL u), false⟩ :: ⟨22, 1, (some ⟨g_1, 0, none⟩), 1, 1, [.slice A_u u.length c_u], false⟩ :: Rs_9)) (Sub.refl _) (fun _ h => Hp.toTail0 (X := [_]) (Y := [_, _]) h) ?_
  refine wr_y rfl (y_move rfl) ?_
  refine wr_y rfl (y_extract rfl rfl) ?_
  refine wr_y rfl (y_extract rfl rfl) ?_
  refine wr_y rfl (y_assign rfl) ?_
  refine wr_y rfl (y_assign rfl) ?_
  refine wr_nil ?_
  refine v_seqW ?_
  refine w_reg ?_
  refine wr_a rfl (a_litI .u8 [] Try.underlying22 zs5 rfl rfl rfl) ?_
  rintro _ _ ⟨g_13, rfl, rfl⟩
  refine wr_a rfl (a_alloc (sz := 1) zz22 rfl) ?_
  rintro _ _ ⟨g_14, rfl, rfl⟩
  refine wr_rows (R1 := (⟨22, 1, (some ⟨g_14, 0, none⟩), 1, 1, [.slice none 0 0], false⟩ :: ⟨5, 1, (some ⟨g_13, 0, none⟩), 0, 0, ints .u8 ([]), false⟩ :: ⟨35, 1, A_6, vals_8.length, c_7, vals_8, false⟩ :: ⟨3, 1, A_3, (fsL u).length, c_4, ints .i64 (fsL u), false⟩ :: ⟨22, 1, (some ⟨g_1, 0, none⟩), 1, 1, [.slice A_u u.length c_u], false⟩ :: Rs_9)) rfl ?_
  refine wr_n (a_storeAt 0 rfl rfl rfl sz22 rfl rfl rfl rfl (Nat.le_of_ble_eq_true rfl)) ?_
  rintro _ _ rfl
  refine wr_rows (R1 := (⟨22, 1, (some ⟨g_14, 0, none⟩), 1, 1, [.slice (some ⟨g_13, 0, none⟩) 0 0], false⟩ :: ⟨5, 1, (some ⟨g_13, 0, none⟩), 0, 0, ints .u8 ([]), false⟩ :: ⟨35, 1, A_6, vals_8.length, c_7, vals_8, false⟩ :: ⟨3, 1, A_3, (fsL u).length, c_4, ints .i64 (fsL u), false⟩ :: ⟨22, 1, (some ⟨g_1, 0, none⟩), 1, 1, [.slice A_u u.length c_u], false⟩ :: Rs_9)) rfl ?_
  refine wr_nil ?_
  refine v_seq ?_
  refine v_seqW ?_
  refine w_reg ?_
  refine wr_y rfl (y_move rfl) ?_
  refine wr_a rfl (a_callF en50 rfl (backRows_ct)) ?_
  rintro _ _ ⟨g_15, rfl, rfl⟩
  refine wr_nil ?_
  refine v_block ?_
  refine v_rangeL4 rfl en76 (back0_it (A := A_6) (c := c_7) (xs := vals_8) (by have := hsl_10.1; omega)) rfl (fun _ => rfl) Gd.refl (fun (kr : Nat) (A1 : Option Addr) (n1 : Nat) (c1 : Nat) (acc : List Int) => (⟨62, 1, (some ⟨g_15, 0, none⟩), 1, 1, [.slice A_6 vals_8.length c_7], false⟩ :: ⟨22, 1, (some ⟨g_14, 0, none⟩), 1, 1, [.slice A1 n1 c1], false⟩ :: ⟨5, 1, A1, n1, c1, ints .u8 acc, false⟩ :: ⟨35, 1, A_6, vals_8.length, c_7, vals_8, false⟩ :: ⟨3, 1, A_3, (fsL u).length, c_4, ints .i64 (fsL u), false⟩ :: ⟨22, 1, (some ⟨g_1, 0, none⟩), 1, 1, [.slice A_u u.length c_u], false⟩ :: Rs_9)) (fun (kr : Nat) (A1 : Option Addr) (n1 : Nat) (c1 : Nat) (acc : List Int) => (n1 = acc.length) ∧ (acc = (((cycL (fsL u)).reverse.take kr).map (wordC u)).flatten)) ?_ ?_ ?_ ?_
  ·
    exact ⟨some ⟨g_13, 0, none⟩, 0, 0, [], ⟨(rfl), (rfl)⟩, fun _ h => h⟩
  ·
    intro kr A1 n1 c1 acc w ⟨hn1, hacc⟩ hw
    exact ⟨(rdR 0 (r := ⟨62, 1, (some ⟨g_15, 0, none⟩), 1, 1, [.slice A_6 vals_8.length c_7], false⟩) rfl) w hw, (rdr 3 rfl) w hw⟩
  ·
    intro lr kr A1 n1 c1 acc WW1 hkr ⟨hn1, hacc⟩ hbW1
    have hal : acc.length ≤ u.length := by rw [hacc]; exact Nat.le_trans flat_len_le (by omega)
    obtain ⟨A_17, c_18, hv_19, hr_20⟩ := hsl_10.at (i := ((vals_8.length - 1 - kr : Nat) : Int)) (by omega) (by have := hsl_10.1; omega)
    have he_21 : vals_8[vals_8.length - 1 - kr]?.getD undef = .slice A_17 (rdl (cycL (fsL u)) ((vals_8.length - 1 - kr : Nat) : Int)).length c_18 := by
      rw [Int.toNat_natCast] at hv_19
      rw [hv_19]; rfl
    refine w_as (d := 24) (v := .slice A_17 (rdl (cycL (fsL u)) ((vals_8.length - 1 - kr : Nat) : Int)).length c_18) (congrArg some he_21) ?_
    have hcm : rdl (cycL (fsL u)) ((vals_8.length - 1 - kr : Nat) : Int) ∈ cycL (fsL u) := cyc_mem (by omega) (by have := hsl_10.1; omega)
    have hcl2 : (rdl (cycL (fsL u)) ((vals_8.length - 1 - kr : Nat) : Int)).length ≤ u.length := by have := List.Sublist.length_le (List.sublist_flatten_of_mem hcm); omega
    refine w_reg ?_
    refine wr_y rfl (y_assign rfl) ?_
    refine wr_nil ?_
    intro WW13 hbW13 hlW13
    refine w_block ?_
    refine w_seq ?_
    refine w_reg ?_
    refine wr_y rfl (y_move rfl) ?_
    refine wr_a rfl (a_callF en51 rfl (backInts_ct)) ?_
    rintro _ _ ⟨g_22, rfl, rfl⟩
    refine wr_nil ?_
    refine w_block ?_
    refine w_range4 rfl en77 (back1_ints (A := A_17) (c := c_18) (zs := rdl (cycL (fsL u)) ((vals_8.length - 1 - kr : Nat) : Int)) (by omega)) rfl (fun _ => rfl) ⟨_, hlW13.choose_spec⟩ (fun (kq : Nat) (A2 : Option Addr) (n2 : Nat) (c2 : Nat) (acc2 : List Int) => (⟨35, 1, (some ⟨g_22, 0, none⟩), 1, 1, [.slice A_17 ((rdl (cycL (fsL u)) ((vals_8.length - 1 - kr : Nat) : Int)).length) c_18], false⟩ :: ⟨62, 1, (some ⟨g_15, 0, none⟩), 1, 1, [.slice A_6 vals_8.length c_7], false⟩ :: ⟨22, 1, (some ⟨g_14, 0, none⟩), 1, 1, [.slice A2 n2 c2], false⟩ :: ⟨5, 1, A2, n2, c2, ints .u8 acc2, false⟩ :: ⟨35, 1, A_6, vals_8.length, c_7, vals_8, false⟩ :: ⟨3, 1, A_3, (fsL u).length, c_4, ints .i64 (fsL u), false⟩ :: ⟨22, 1, (some ⟨g_1, 0, none⟩), 1, 1, [.slice A_u u.length c_u], false⟩ :: Rs_9)) (fun (kq : Nat) (A2 : Option Addr) (n2 : Nat) (c2 : Nat) (acc2 : List Int) => (n2 = acc2.length) ∧ (acc2 = acc ++ ((rdl (cycL (fsL u)) ((vals_8.length - 1 - kr : Nat) : Int)).reverse.take kq).map (rd u))) ?_ ?_ ?_ ?_
    ·
      exact ⟨A1, n1, c1, acc, ⟨(hn1), (by rw [List.take_zero]; simp)⟩, fun _ h => h⟩
    ·
      intro kq A2 n2 c2 acc2 w ⟨hn2, hacc2⟩ hw
      exact ⟨(rdR 0 (r := ⟨35, 1, (some ⟨g_22, 0, none⟩), 1, 1, [.slice A_17 ((rdl (cycL (fsL u)) ((vals_8.length - 1 - kr : Nat) : Int)).length) c_18], false⟩) rfl) w hw, (fun _ h => hr_20 _ _ _ (h.right (R' := [_, _, _, _, _, _, _]))) w hw⟩
    ·
      intro lr kq A2 n2 c2 acc2 WW2 hkq ⟨hn2, hacc2⟩ hbW2
      have hel := cycL_in hfp _ hcm _ (rd_mem (L := rdl (cycL (fsL u)) ((vals_8.length - 1 - kr : Nat) : Int)) (k := (((rdl (cycL (fsL u)) ((vals_8.length - 1 - kr : Nat) : Int)).length - 1 - kq : Nat) : Int)) (by omega) (by omega))
      have hal2 : acc2.length ≤ acc.length + (rdl (cycL (fsL u)) ((vals_8.length - 1 - kr : Nat) : Int)).length := by rw [hacc2, List.length_append, List.length_map, List.length_take, List.length_reverse]; omega
      refine w_reg ?_
      refine wr_y rfl (y_assign rfl) ?_
      refine wr_nil ?_
      intro WW23 hbW23 hlW23
      refine w_block ?_
      refine w_regd mixed ?_
      refine wd_y 0 rfl (by kernel_rfl) rfl (y_ldIn (rdR 2 (r := ⟨22, 1, (some ⟨g_14, 0, none⟩), 1, 1, [.slice A2 n2 c2], false⟩) rfl) Try.underlying22 rfl rfl rfl) ?_
      refine wd_y 1 rfl (by kernel_rfl) rfl (y_ldIn (rdR 6 (r := ⟨22, 1, (some ⟨g_1, 0, none⟩), 1, 1, [.slice A_u u.length c_u], false⟩) rfl) Try.underlying22 rfl rfl rfl) ?_
      refine wd_y 2 rfl (by kernel_rfl) rfl (y_move rfl) ?_
      refine wd_y 3 rfl (by kernel_rfl) rfl (y_index1 Try.underlying22 sz5 rfl rfl (h_u.cb (hbW13.trans hbW23) _) (by omega) (by omega)) ?_
      refine wd_y 4 rfl (by kernel_rfl) rfl (y_ldI Try.underlying5 rfl rfl (h_u.cb (hbW13.trans hbW23) _) (by omega) (by omega)) ?_
      refine wd_a 5 rfl (by kernel_rfl) rfl (a_litI .u8 [rd u (rd (rdl (cycL (fsL u)) ((vals_8.length - 1 - kr : Nat) : Int)) (((rdl (cycL (fsL u)) ((vals_8.length - 1 - kr : Nat) : Int)).length - 1 - kq : Nat) : Int))] Try.underlying22 zs5 rfl rfl rfl) ?_
      rintro _ _ ⟨g_25, rfl, rfl⟩
      refine ⟨.inr fun _ h => h.right (R' := [_]), ?_⟩
      refine wd_a 6 rfl (by kernel_rfl) rfl (a_appendI 4 rfl Try.underlying22 zb5 rfl rfl rfl (rdr 0 rfl) (by omega)) ?_
      rintro _ _ ⟨A_26, c_27, rfl, rfl⟩
      refine ⟨.inl (by kernel_rfl), ?_⟩
      refine wd_rows (R1 := (⟨5, 1, (some ⟨g_25, 0, none⟩), 1, 1, ints .u8 ([rd u (rd (rdl (cycL (fsL u)) ((vals_8.length - 1 - kr : Nat) : Int)) (((rdl (cycL (fsL u)) ((vals_8.length - 1 - kr : Nat) : Int)).length - 1 - kq : Nat) : Int))]), false⟩ :: ⟨35, 1, (some ⟨g_22, 0, none⟩), 1, 1, [.slice A_17 ((rdl (cycL (fsL u)) ((vals_8.length - 1 - kr : Nat) : Int)).length) c_18], false⟩ :: ⟨62, 1, (some ⟨g_15, 0, none⟩), 1, 1, [.slice A_6 vals_8.length c_7], false⟩ :: ⟨22, 1, (some ⟨g_14, 0, none⟩), 1, 1, [.slice A2 n2 c2], false⟩ :: ⟨5, 1, A_26, (n2 + 1), c_27, ints .u8 (acc2 ++ ([rd u (rd (rdl (cycL (fsL u)) ((vals_8.length - 1 - kr : Nat) : Int)) (((rdl (cycL (fsL u)) ((vals_8.length - 1 - kr : Nat) : Int)).length - 1 - kq : Nat) : Int))])), false⟩ :: ⟨35, 1, A_6, vals_8.length, c_7, vals_8, false⟩ :: ⟨3, 1, A_3, (fsL u).length, c_4, ints .i64 (fsL u), false⟩ :: ⟨22, 1, (some ⟨g_1, 0, none⟩), 1, 1, [.slice A_u u.length c_u], false⟩ :: Rs_9)) rfl ?_
      refine wd_as (v := .slice A_26 (n2 + 1) c_27) rfl ?_
      refine wd_n 7 rfl (by kernel_rfl) (a_storeAt 3 rfl rfl rfl sz22 rfl rfl rfl rfl (Nat.le_of_ble_eq_true rfl)) ?_
      rintro _ _ rfl
      refine ⟨.inl (by kernel_rfl), ?_⟩
      refine wd_rows (R1 := (⟨5, 1, (some ⟨g_25, 0, none⟩), 1, 1, ints .u8 ([rd u (rd (rdl (cycL (fsL u)) ((vals_8.length - 1 - kr : Nat) : Int)) (((rdl (cycL (fsL u)) ((vals_8.length - 1 - kr : Nat) : Int)).length - 1 - kq : Nat) : Int))]), false⟩ :: ⟨35, 1, (some ⟨g_22, 0, none⟩), 1, 1, [.slice A_17 ((rdl (cycL (fsL u)) ((vals_8.length - 1 - kr : Nat) : Int)).length) c_18], false⟩ :: ⟨62, 1, (some ⟨g_15, 0, none⟩), 1, 1, [.slice A_6 vals_8.length c_7], false⟩ :: ⟨22, 1, (some ⟨g_14, 0, none⟩), 1, 1, [.slice A_26 (n2 + 1) c_27], false⟩ :: ⟨5, 1, A_26, (n2 + 1), c_27, ints .u8 (acc2 ++ ([rd u (rd (rdl (cycL (fsL u)) ((vals_8.length - 1 - kr : Nat) : Int)) (((rdl (cycL (fsL u)) ((vals_8.length - 1 - kr : Nat) : Int)).length - 1 - kq : Nat) : Int))])), false⟩ :: ⟨35, 1, A_6, vals_8.length, c_7, vals_8, false⟩ :: ⟨3, 1, A_3, (fsL u).length, c_4, ints .i64 (fsL u), false⟩ :: ⟨22, 1, (some ⟨g_1, 0, none⟩), 1, 1, [.slice A_u u.length c_u], false⟩ :: Rs_9)) rfl ?_
      refine wd_nil (by kernel_rfl) ?_
      exact ⟨A_26, n2 + 1, c_27, acc2 ++ ([rd u (rd (rdl (cycL (fsL u)) ((vals_8.length - 1 - kr : Nat) : Int)) (((rdl (cycL (fsL u)) ((vals_8.length - 1 - kr : Nat) : Int)).length - 1 - kq : Nat) : Int))]), ⟨(by rw [List.length_append, hn2]; rfl), (word_inner hkq hacc2)⟩, fun _ => fun _ h => h.selR (F := [_, _, _, _, _, _, _, _]) (F' := [_, _, _, _, _, _, _]) [1, 2, 3, 4, 5, 6, 7] (by decide) rfl⟩
    intro A2 n2 c2 acc2 ⟨hn2, hacc2⟩
    exact ⟨A2, n2, c2, acc2, ⟨(hn2), (back_outer hsl_10.1 hkr hacc hacc2)⟩, fun _ => fun _ h => h.selR (F := [_, _, _, _, _, _, _]) (F' := [_, _, _, _, _, _]) [1, 2, 3, 4, 5, 6] (by decide) rfl⟩
  intro WW15 DW1 A1 n1 c1 acc ⟨hn1, hacc⟩ hbW15 hGW15
  have hvl := hsl_10.1
  refine v_goB ?_
  refine v_go ?_
  refine v_w ?_
  refine w_seq ?_
  refine w_reg ?_
  refine wr_y rfl (y_ldIn (rdR 1 (r := ⟨22, 1, (some ⟨g_14, 0, none⟩), 1, 1, [.slice A1 n1 c1], false⟩) rfl) Try.underlying22 rfl rfl rfl) ?_
  refine wr_y rfl (y_assign rfl) ?_
  refine wr_y rfl (y_assign rfl) ?_
  refine wr_nil ?_
  refine w_retR (R1 := [⟨5, 1, A1, n1, c1, ints .u8 acc, false⟩]) (fun _ h => (h.selR (F := [_, _, _, _, _, _]) (F' := [_]) [2] (by decide) rfl).left (X := [_])) ?_
  refine fin2 rfl hGW15 ⟨_, _, rfl, rfl, ?_⟩
  rw [List.take_of_length_le (by rw [List.length_reverse]; omega)] at hacc
  obtain rfl : acc = backL u (cycL (fsL u)) := hacc
  obtain rfl := hn1
  exact ⟨_, _, rfl, rfl⟩

end Go.Proofs.Ytdfcnalkdlifiaa
