/- Walks of Go functions, printed by a program of our own. -/
import Derived.Test.YtlagmdccneompaaV2
import Derived.Test.YtlagmdccneompaaS2
import Derived.Test.YtlagmdccneompaaE19
import Derived.Test.YtlagmdccneompaaE21
import Derived.Test.YtlagmdccneompaaG2
namespace Go.Proofs.Ytlagmdccneompaa
open Go Go.Eng Go.Pure
set_option linter.unusedVariables false
/-! slices.Values[[]int,int] -/
set_option maxRecDepth 100000 in
theorem values_ct {B : Nat} {w0 : World} {R : List Row} {A_s : Option Addr} {n_s c_s : Nat} :
    Ct Try.prog 46 #[.slice A_s n_s c_s] B w0 R (fun v R' => ∃ g, v = .func (.func 67) #[] #[.pointer (some ⟨g, 0, none⟩)] ∧ R' = ⟨22, 1, some ⟨g, 0, none⟩, 1, 1, [.slice A_s n_s c_s], false⟩ :: R) := by
  refine fn1 Try.func46 rfl rfl rfl ?_
  refine w_seq ?_
  refine w_reg ?_
  refine wr_a rfl (a_box (sz := 1) rfl rfl) ?_
  rintro _ _ ⟨g, rfl, rfl⟩
  refine wr_y rfl (y_assign rfl) ?_
  refine wr_nil ?_
  refine w_seq ?_
  refine w_reg ?_
  refine wr_y rfl (y_makeFunc rfl rfl) ?_
  refine wr_y rfl (y_assign rfl) ?_
  refine wr_nil ?_
  refine w_ret ?_
  exact ⟨_, rfl, g, rfl, rfl⟩

/-! slices.Backward[[]int,int] -/
set_option maxRecDepth 100000 in
theorem backward_ct {B : Nat} {w0 : World} {R : List Row} {A_s : Option Addr} {n_s c_s : Nat} :
    Ct Try.prog 52 #[.slice A_s n_s c_s] B w0 R (fun v R' => ∃ g, v = .func (.func 70) #[] #[.pointer (some ⟨g, 0, none⟩)] ∧ R' = ⟨22, 1, some ⟨g, 0, none⟩, 1, 1, [.slice A_s n_s c_s], false⟩ :: R) := by
  refine fn1 Try.func52 rfl rfl rfl ?_
  refine w_seq ?_
  refine w_reg ?_
  refine wr_a rfl (a_box (sz := 1) rfl rfl) ?_
  rintro _ _ ⟨g, rfl, rfl⟩
  refine wr_y rfl (y_assign rfl) ?_
  refine wr_nil ?_
  refine w_seq ?_
  refine w_reg ?_
  refine wr_y rfl (y_makeFunc rfl rfl) ?_
  refine wr_y rfl (y_assign rfl) ?_
  refine wr_nil ?_
  refine w_ret ?_
  exact ⟨_, rfl, g, rfl, rfl⟩

theorem take_one {l : List Int} {k : Nat} (h : k < l.length) : l.take k ++ [rd l (k : Int)] = l.take (k + 1) := by
  rw [List.take_add_one, List.getElem?_eq_getElem h, rd, Int.toNat_natCast, List.getD_eq_getElem?_getD, List.getElem?_eq_getElem h]; rfl
/-! slices.AppendSeq[[]int,int] -/
set_option maxRecDepth 100000 in
theorem appendSeq_ct {w : World} {A_s : Option Addr} {n_s c_s Bs : Nat} {s : List Int} (h_s : Rd w A_s n_s c_s 1 (ints .i64 s)) (h_b : Rd w (some ⟨Bs, 0, none⟩) 1 1 1 [.slice A_s n_s c_s]) (hN : s.length ≤ 1000000) :
    Ct Try.prog 75 #[.slice none 0 0, .func (.func 67) #[] #[.pointer (some ⟨Bs, 0, none⟩)]] w.heap.size w [] (fun v R' => ∃ A c, v = .slice A (s).length c ∧ R' = [⟨3, 1, A, (s).length, c, ints .i64 (s), false⟩]) := by
  refine fnV Try.func75 rfl rfl ?_
  obtain rfl := h_s.lenI
  refine v_seqW ?_
  refine w_reg ?_
  refine wr_a rfl (a_box (sz := 1) rfl rfl) ?_
  rintro _ _ ⟨g_1, rfl, rfl⟩
  refine wr_sub (R1 := [⟨3, 1, none, 0, 0, ints .i64 ([]), false⟩, ⟨22, 1, (some ⟨g_1, 0, none⟩), 1, 1, [.slice none 0 0], false⟩]) (Sub.refl _) (fun _ h => h.nil 3 1) ?_
  refine wr_rows (R1 := [⟨3, 1, none, 0, 0, ints .i64 ([]), false⟩, ⟨22, 1, (some ⟨g_1, 0, none⟩), 1, 1, [.slice none 0 0], false⟩]) rfl ?_
  refine wr_y rfl (y_assign rfl) ?_
  refine wr_nil ?_
  refine v_seq ?_
  refine v_seqW ?_
  refine w_reg ?_
  refine wr_y rfl (y_move rfl) ?_
  refine wr_nil ?_
  refine v_block ?_
  refine v_range4 rfl en67 (vals0_ints (A := A_s) (c := c_s) (zs := s)) rfl (fun _ => rfl) Gd.refl (fun (kr : Nat) (A1 : Option Addr) (n1 : Nat) (c1 : Nat) (acc : List Int) => [⟨3, 1, A1, n1, c1, ints .i64 acc, false⟩, ⟨22, 1, (some ⟨g_1, 0, none⟩), 1, 1, [.slice A1 n1 c1], false⟩]) (fun (kr : Nat) (A1 : Option Addr) (n1 : Nat) (c1 : Nat) (acc : List Int) => (n1 = acc.length) ∧ (acc = s.take kr)) ?_ ?_ ?_ ?_
  ·
    exact ⟨none, 0, 0, [], ⟨(rfl), (List.take_zero.symm)⟩, fun _ h => h⟩
  ·
    intro kr A1 n1 c1 acc w ⟨hn1, hacc⟩ hw
    exact ⟨(h_b.c _) w hw, (h_s.c _) w hw⟩
  ·
    intro lr kr A1 n1 c1 acc WW1 hkr ⟨hn1, hacc⟩ hbW1
    have hl1 : acc.length ≤ s.length := by rw [hacc, List.length_take]; omega
    refine w_reg ?_
    refine wr_y rfl (y_assign rfl) ?_
    refine wr_nil ?_
    intro WW13 hbW13
    refine w_block ?_
    refine w_reg ?_
    refine wr_y rfl (y_ldIn (rdR 1 (r := ⟨22, 1, (some ⟨g_1, 0, none⟩), 1, 1, [.slice A1 n1 c1], false⟩) rfl) Try.underlying22 rfl rfl rfl) ?_
    refine wr_y rfl (y_move rfl) ?_
    refine wr_a rfl (a_litI .i64 [rd s (kr : Int)] Try.underlying22 zs3 rfl rfl rfl) ?_
    rintro _ _ ⟨g_4, rfl, rfl⟩
    refine wr_a rfl (a_appendI 1 rfl Try.underlying22 zb3 rfl rfl rfl (rdr 0 rfl) (by omega)) ?_
    rintro _ _ ⟨A_5, c_6, rfl, rfl⟩
    refine wr_rows (R1 := [⟨3, 1, (some ⟨g_4, 0, none⟩), 1, 1, ints .i64 ([rd s (kr : Int)]), false⟩, ⟨3, 1, A_5, (n1 + 1), c_6, ints .i64 (acc ++ ([rd s (kr : Int)])), false⟩, ⟨22, 1, (some ⟨g_1, 0, none⟩), 1, 1, [.slice A1 n1 c1], false⟩]) rfl ?_
    refine wr_as (v := .slice A_5 (n1 + 1) c_6) rfl ?_
    refine wr_n (a_storeAt 2 rfl rfl rfl sz22 rfl rfl rfl rfl (Nat.le_of_ble_eq_true rfl)) ?_
    rintro _ _ rfl
    refine wr_rows (R1 := [⟨3, 1, (some ⟨g_4, 0, none⟩), 1, 1, ints .i64 ([rd s (kr : Int)]), false⟩, ⟨3, 1, A_5, (n1 + 1), c_6, ints .i64 (acc ++ ([rd s (kr : Int)])), false⟩, ⟨22, 1, (some ⟨g_1, 0, none⟩), 1, 1, [.slice A_5 (n1 + 1) c_6], false⟩]) rfl ?_
    refine wr_nil ?_
    exact ⟨A_5, (n1 + 1), c_6, acc ++ ([rd s (kr : Int)]), ⟨(by rw [List.length_append, hn1]; try rfl), (by rw [hacc]; exact take_one hkr)⟩, fun _ => fun _ h => h.sel [1, 2] (by decide) rfl⟩
  intro WW15 DW1 A1 n1 c1 acc ⟨hn1, hacc⟩ hbW15 hGW15
  refine v_goB ?_
  refine v_go ?_
  refine v_w ?_
  refine w_seq ?_
  refine w_reg ?_
  refine wr_y rfl (y_ldIn (rdR 1 (r := ⟨22, 1, (some ⟨g_1, 0, none⟩), 1, 1, [.slice A1 n1 c1], false⟩) rfl) Try.underlying22 rfl rfl rfl) ?_
  refine wr_y rfl (y_assign rfl) ?_
  refine wr_nil ?_
  refine w_retR (R1 := [⟨3, 1, A1, n1, c1, ints .i64 acc, false⟩]) (fun _ h => h.sel [0] (by decide) rfl) ?_
  refine fin1 rfl hGW15 ⟨_, rfl, ?_⟩
  rw [List.take_length] at hacc
  subst hn1
  subst hacc
  exact ⟨_, _, rfl, rfl⟩

/-! slices.Collect[int] -/
set_option maxRecDepth 100000 in
theorem collect_ct {w : World} {A_s : Option Addr} {n_s c_s Bs : Nat} {s : List Int} (h_s : Rd w A_s n_s c_s 1 (ints .i64 s)) (h_b : Rd w (some ⟨Bs, 0, none⟩) 1 1 1 [.slice A_s n_s c_s]) (hN : s.length ≤ 1000000) :
    Ct Try.prog 65 #[.func (.func 67) #[] #[.pointer (some ⟨Bs, 0, none⟩)]] w.heap.size w [] (fun v R' => ∃ A c, v = .slice A (s).length c ∧ R' = [⟨3, 1, A, (s).length, c, ints .i64 (s), false⟩]) := by
  refine fn1 Try.func65 rfl rfl rfl ?_
  refine w_seq ?_
  refine w_reg ?_
  refine wr_y rfl (y_assign rfl) ?_
  refine wr_nil ?_
  refine w_seq ?_
  refine w_reg ?_
  refine wr_y rfl (y_move rfl) ?_
  refine wr_a rfl (a_callF en75 rfl (Ct.fresh (fun w hw => appendSeq_ct ((h_s.c _) w hw) ((h_b.c _) w hw) (by omega)))) ?_
  rintro _ _ ⟨_, rfl, A_1, c_2, rfl, rfl⟩
  refine wr_y rfl (y_assign rfl) ?_
  refine wr_nil ?_
  refine w_retR (R1 := [⟨3, 1, A_1, s.length, c_2, ints .i64 s, false⟩]) (fun _ h => h.sel [0] (by decide) rfl) ?_
  refine ⟨_, rfl, ?_⟩
  exact ⟨_, _, rfl, rfl⟩

/-! slices.Sorted[int] -/
set_option maxRecDepth 100000 in
theorem sorted_ct {w : World} {A_s : Option Addr} {n_s c_s Bs : Nat} {s : List Int} (h_s : Rd w A_s n_s c_s 1 (ints .i64 s)) (h_b : Rd w (some ⟨Bs, 0, none⟩) 1 1 1 [.slice A_s n_s c_s]) (hN : s.length ≤ 1000000) :
    Ct Try.prog 45 #[.func (.func 67) #[] #[.pointer (some ⟨Bs, 0, none⟩)]] w.heap.size w [] (fun v R' => ∃ A c, v = .slice A (sortL s).length c ∧ R' = [⟨3, 1, A, (sortL s).length, c, ints .i64 (sortL s), false⟩]) := by
  refine fn1 Try.func45 rfl rfl rfl ?_
  refine w_seq ?_
  refine w_reg ?_
  refine wr_y rfl (y_assign rfl) ?_
  refine wr_nil ?_
  refine w_seq ?_
  refine w_reg ?_
  refine wr_y rfl (y_move rfl) ?_
  refine wr_a rfl (a_callF en65 rfl (Ct.fresh (fun w hw => collect_ct ((h_s.c _) w hw) ((h_b.c _) w hw) (by omega)))) ?_
  rintro _ _ ⟨_, rfl, A_1, c_2, rfl, rfl⟩
  refine wr_y rfl (y_assign rfl) ?_
  refine wr_nil ?_
  refine w_seq ?_
  refine w_reg ?_
  refine wr_y rfl (y_move rfl) ?_
  refine wr_a rfl (a_callF en66 rfl (sort_ints Try.slices_Sort_int Try.slices_Sort_int_none 0 rfl (by omega))) ?_
  rintro _ _ ⟨rfl, rfl⟩
  refine wr_rows (R1 := [⟨3, 1, A_1, s.length, c_2, ints .i64 (sortL s), false⟩]) rfl ?_
  refine wr_nil ?_
  refine w_seq ?_
  refine w_reg ?_
  refine wr_y rfl (y_move rfl) ?_
  refine wr_y rfl (y_assign rfl) ?_
  refine wr_nil ?_
  refine w_retR (R1 := [⟨3, 1, A_1, s.length, c_2, ints .i64 (sortL s), false⟩]) (fun _ h => h.sel [0] (by decide) rfl) ?_
  refine ⟨_, rfl, ?_⟩
  have e : s.length = (sortL s).length := (sortL_perm s).length_eq.symm
  rw [e]
  exact ⟨_, _, rfl, rfl⟩

end Go.Proofs.Ytlagmdccneompaa
