/- Walks of Go functions, printed by a program of our own. -/
import Derived.Test.YtlagmdccneompaaV1
import Derived.Test.YtlagmdccneompaaS2
import Derived.Test.YtlagmdccneompaaE19
import Derived.Test.YtlagmdccneompaaG2
namespace Go.Proofs.Ytlagmdccneompaa
open Go Go.Eng Go.Pure
set_option linter.unusedVariables false
/-! slices.Values[[]int,int] -/
set_option maxRecDepth 100000 in
theorem values_ct {B : Nat} {w0 : World} {R : List Row} {A_s : Option Addr} {n_s c_s : Nat} :
    Ct Try.prog 46 #[.slice A_s n_s c_s] B w0 R (fun v R' => ∃ g, v = .func (.func 67) #[] #[.pointer (some ⟨g, 0, none⟩)] ∧ R' = ⟨22, 1, some ⟨g, 0, none⟩, 1, 1, [.slice A_s n_s c_s], false⟩ :: R) := by
  refine fn1 Try.func46 rfl rfl rfl ?_
  refine w_seq ?_
  refine w_reg ?_
  refine wr_a rfl (a_box (sz := 1) rfl rfl) ?_
  rintro _ _ ⟨g, rfl, rfl⟩
  refine wr_y rfl (y_assign rfl) ?_
  refine wr_nil ?_
  refine w_seq ?_
  refine w_reg ?_
  refine wr_y rfl (y_makeFunc rfl rfl) ?_
  refine wr_y rfl (y_assign rfl) ?_
  refine wr_nil ?_
  refine w_ret ?_
  exact ⟨_, rfl, g, rfl, rfl⟩

/-! slices.Collect[int] -/
set_option maxRecDepth 100000 in
theorem collect_ct {w : World} {A_s : Option Addr} {n_s c_s Bs : Nat} {s : List Int} (h_s : Rd w A_s n_s c_s 1 (ints .i64 s)) (h_b : Rd w (some ⟨Bs, 0, none⟩) 1 1 1 [.slice A_s n_s c_s]) (hN : s.length ≤ 1000000) :
    Ct Try.prog 65 #[.func (.func 67) #[] #[.pointer (some ⟨Bs, 0, none⟩)]] w.heap.size w [] (fun v R' => ∃ A c, v = .slice A (s).length c ∧ R' = [⟨3, 1, A, (s).length, c, ints .i64 (s), false⟩]) := by
  refine fn1 Try.func65 rfl rfl rfl ?_
  refine w_seq ?_
  refine w_reg ?_
  refine wr_y rfl (y_assign rfl) ?_
  refine wr_nil ?_
  refine w_seq ?_
  refine w_reg ?_
  refine wr_y rfl (y_move rfl) ?_
  refine wr_a rfl (a_callF en75 rfl (Ct.fresh (fun w hw => appendSeq_ct ((h_s.c _) w hw) ((h_b.c _) w hw) (by omega)))) ?_
  rintro _ _ ⟨_, rfl, A_1, c_2, rfl, rfl⟩
  refine wr_y rfl (y_assign rfl) ?_
  refine wr_nil ?_
  refine w_retR (R1 := [⟨3, 1, A_1, s.length, c_2, ints .i64 s, false⟩]) (fun _ h => h.sel [0] (by decide) rfl) ?_
  refine ⟨_, rfl, ?_⟩
  exact ⟨_, _, rfl, rfl⟩

/-! slices.Sorted[int] -/
set_option maxRecDepth 100000 in
theorem sorted_ct {w : World} {A_s : Option Addr} {n_s c_s Bs : Nat} {s : List Int} (h_s : Rd w A_s n_s c_s 1 (ints .i64 s)) (h_b : Rd w (some ⟨Bs, 0, none⟩) 1 1 1 [.slice A_s n_s c_s]) (hN : s.length ≤ 1000000) :
    Ct Try.prog 45 #[.func (.func 67) #[] #[.pointer (some ⟨Bs, 0, none⟩)]] w.heap.size w [] (fun v R' => ∃ A c, v = .slice A (sortL s).length c ∧ R' = [⟨3, 1, A, (sortL s).length, c, ints .i64 (sortL s), false⟩]) := by
  refine fn1 Try.func45 rfl rfl rfl ?_
  refine w_seq ?_
  refine w_reg ?_
  refine wr_y rfl (y_assign rfl) ?_
  refine wr_nil ?_
  refine w_seq ?_
  refine w_reg ?_
  refine wr_y rfl (y_move rfl) ?_
  refine wr_a rfl (a_callF en65 rfl (Ct.fresh (fun w hw => collect_ct ((h_s.c _) w hw) ((h_b.c _) w hw) (by omega)))) ?_
  rintro _ _ ⟨_, rfl, A_1, c_2, rfl, rfl⟩
  refine wr_y rfl (y_assign rfl) ?_
  refine wr_nil ?_
  refine w_seq ?_
  refine w_reg ?_
  refine wr_y rfl (y_move rfl) ?_
  refine wr_a rfl (a_callF en66 rfl (sort_ints Try.slices_Sort_int Try.slices_Sort_int_none 0 rfl (by omega))) ?_
  rintro _ _ ⟨rfl, rfl⟩
  refine wr_rows (R1 := [⟨3, 1, A_1, s.length, c_2, ints .i64 (sortL s), false⟩]) rfl ?_
  refine wr_nil ?_
  refine w_seq ?_
  refine w_reg ?_
  refine wr_y rfl (y_move rfl) ?_
  refine wr_y rfl (y_assign rfl) ?_
  refine wr_nil ?_
  refine w_retR (R1 := [⟨3, 1, A_1, s.length, c_2, ints .i64 (sortL s), false⟩]) (fun _ h => h.sel [0] (by decide) rfl) ?_
  refine ⟨_, rfl, ?_⟩
  have e : s.length = (sortL s).length := (sortL_perm s).length_eq.symm
  rw [e]
  exact ⟨_, _, rfl, rfl⟩

end Go.Proofs.Ytlagmdccneompaa
