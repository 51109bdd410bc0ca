/- Several texts of our own in one: K3, K5. -/
import Derived.Test.YtipnciohgbjjhaaB5
/-! ## K3 -/
namespace Go.Proofs.Ytipnciohgbjjhaa
open Go Go.Eng Go.Pure
set_option linter.unusedVariables false
set_option maxRecDepth 100000 in
theorem add64_0_ct {B : Nat} {w0 : World} {R : List Row} {g : Nat} {a0 a1 a2 : Int} (hr : 0 ≤ a0 ∧ a0 < 1000000) :
    Ct Try.prog 20 #[.pointer (some ⟨g, 0, none⟩), .int .i64 1] B w0 (⟨48, 3, (some ⟨g, 0, none⟩), 1, 1, [.int .i64 a0, .int .i64 a1, .int .i64 a2], false⟩ :: R) (fun v R' => v = .int .i64 (a0 + 1) ∧ R' = ⟨48, 3, (some ⟨g, 0, none⟩), 1, 1, [.int .i64 (a0 + 1), .int .i64 a1, .int .i64 a2], false⟩ :: R) := by
  refine fn1 Try.func20 rfl rfl rfl ?_
  refine w_seq ?_
  refine w_reg ?_
  refine wr_y rfl (y_assign rfl) ?_
  refine wr_nil ?_
  refine w_seq ?_
  refine w_reg ?_
  refine wr_y rfl (y_move rfl) ?_
  refine wr_y rfl (y_nilCheck rfl) ?_
  refine wr_y rfl (y_fieldAt (off := 0) (m := 0) Try.underlying45 rfl sz2 rfl rfl rfl) ?_
  refine wr_y rfl (y_move rfl) ?_
  refine wr_a rfl (a_ext rfl (fun w hw => ⟨_, run_call_add (P := Try.prog) Try.func33 (by kernel_rfl) (by kernel_rfl) (by kernel_rfl) .i64 (by kernel_rfl) (y := 1) (s := a0 + 1) (hw.cellAt 0 (r := ⟨48, 3, (some ⟨g, 0, none⟩), 1, 1, [.int .i64 a0, .int .i64 a1, .int .i64 a2], false⟩) (j := 0) rfl rfl rfl) (hw.openAt 0 (r := ⟨48, 3, (some ⟨g, 0, none⟩), 1, 1, [.int .i64 a0, .int .i64 a1, .int .i64 a2], false⟩) 0 rfl rfl rfl) (by have : IntKind.i64.wrap (a0 + 1) = a0 + 1 := (by rw [IntKind.wrap_i64]; omega); simp [Op.intArith, this]), hw.set1 0 (r := ⟨48, 3, (some ⟨g, 0, none⟩), 1, 1, [.int .i64 a0, .int .i64 a1, .int .i64 a2], false⟩) (j := 0) (v := .int .i64 (a0 + 1)) rfl rfl rfl⟩)) ?_
  rintro _ _ ⟨rfl, rfl⟩
  refine wr_rows (R1 := (⟨48, 3, (some ⟨g, 0, none⟩), 1, 1, [.int .i64 (a0 + 1), .int .i64 a1, .int .i64 a2], false⟩ :: R)) rfl ?_
  refine wr_y rfl (y_assign rfl) ?_
  refine wr_nil ?_
  refine w_ret ?_
  refine ⟨_, rfl, ?_⟩
  exact ⟨rfl, rfl⟩

set_option maxRecDepth 100000 in
theorem add64_1_ct {B : Nat} {w0 : World} {R : List Row} {g : Nat} {a0 a1 a2 : Int} (hr : 0 ≤ a1 ∧ a1 < 1000000) :
    Ct Try.prog 20 #[.pointer (some ⟨g, 1, none⟩), .int .i64 1] B w0 (⟨48, 3, (some ⟨g, 0, none⟩), 1, 1, [.int .i64 a0, .int .i64 a1, .int .i64 a2], false⟩ :: R) (fun v R' => v = .int .i64 (a1 + 1) ∧ R' = ⟨48, 3, (some ⟨g, 0, none⟩), 1, 1, [.int .i64 a0, .int .i64 (a1 + 1), .int .i64 a2], false⟩ :: R) := by
  refine fn1 Try.func20 rfl rfl rfl ?_
  refine w_seq ?_
  refine w_reg ?_
  refine wr_y rfl (y_assign rfl) ?_
  refine wr_nil ?_
  refine w_seq ?_
  refine w_reg ?_
  refine wr_y rfl (y_move rfl) ?_
  refine wr_y rfl (y_nilCheck rfl) ?_
  refine wr_y rfl (y_fieldAt (off := 0) (m := 1) Try.underlying45 rfl sz2 rfl rfl rfl) ?_
  refine wr_y rfl (y_move rfl) ?_
  refine wr_a rfl (a_ext rfl (fun w hw => ⟨_, run_call_add (P := Try.prog) Try.func33 (by kernel_rfl) (by kernel_rfl) (by kernel_rfl) .i64 (by kernel_rfl) (y := 1) (s := a1 + 1) (hw.cellAt 0 (r := ⟨48, 3, (some ⟨g, 0, none⟩), 1, 1, [.int .i64 a0, .int .i64 a1, .int .i64 a2], false⟩) (j := 1) rfl rfl rfl) (hw.openAt 0 (r := ⟨48, 3, (some ⟨g, 0, none⟩), 1, 1, [.int .i64 a0, .int .i64 a1, .int .i64 a2], false⟩) 1 rfl rfl rfl) (by have : IntKind.i64.wrap (a1 + 1) = a1 + 1 := (by rw [IntKind.wrap_i64]; omega); simp [Op.intArith, this]), hw.set1 0 (r := ⟨48, 3, (some ⟨g, 0, none⟩), 1, 1, [.int .i64 a0, .int .i64 a1, .int .i64 a2], false⟩) (j := 1) (v := .int .i64 (a1 + 1)) rfl rfl rfl⟩)) ?_
  rintro _ _ ⟨rfl, rfl⟩
  refine wr_rows (R1 := (⟨48, 3, (some ⟨g, 0, none⟩), 1, 1, [.int .i64 a0, .int .i64 (a1 + 1), .int .i64 a2], false⟩ :: R)) rfl ?_
  refine wr_y rfl (y_assign rfl) ?_
  refine wr_nil ?_
  refine w_ret ?_
  refine ⟨_, rfl, ?_⟩
  exact ⟨rfl, rfl⟩

set_option maxRecDepth 100000 in
theorem add64_2_ct {B : Nat} {w0 : World} {R : List Row} {g : Nat} {a0 a1 a2 : Int} (hr : 0 ≤ a2 ∧ a2 < 1000000) :
    Ct Try.prog 20 #[.pointer (some ⟨g, 2, none⟩), .int .i64 1] B w0 (⟨48, 3, (some ⟨g, 0, none⟩), 1, 1, [.int .i64 a0, .int .i64 a1, .int .i64 a2], false⟩ :: R) (fun v R' => v = .int .i64 (a2 + 1) ∧ R' = ⟨48, 3, (some ⟨g, 0, none⟩), 1, 1, [.int .i64 a0, .int .i64 a1, .int .i64 (a2 + 1)], false⟩ :: R) := by
  refine fn1 Try.func20 rfl rfl rfl ?_
  refine w_seq ?_
  refine w_reg ?_
  refine wr_y rfl (y_assign rfl) ?_
  refine wr_nil ?_
  refine w_seq ?_
  refine w_reg ?_
  refine wr_y rfl (y_move rfl) ?_
  refine wr_y rfl (y_nilCheck rfl) ?_
  refine wr_y rfl (y_fieldAt (off := 0) (m := 2) Try.underlying45 rfl sz2 rfl rfl rfl) ?_
  refine wr_y rfl (y_move rfl) ?_
  refine wr_a rfl (a_ext rfl (fun w hw => ⟨_, run_call_add (P := Try.prog) Try.func33 (by kernel_rfl) (by kernel_rfl) (by kernel_rfl) .i64 (by kernel_rfl) (y := 1) (s := a2 + 1) (hw.cellAt 0 (r := ⟨48, 3, (some ⟨g, 0, none⟩), 1, 1, [.int .i64 a0, .int .i64 a1, .int .i64 a2], false⟩) (j := 2) rfl rfl rfl) (hw.openAt 0 (r := ⟨48, 3, (some ⟨g, 0, none⟩), 1, 1, [.int .i64 a0, .int .i64 a1, .int .i64 a2], false⟩) 2 rfl rfl rfl) (by have : IntKind.i64.wrap (a2 + 1) = a2 + 1 := (by rw [IntKind.wrap_i64]; omega); simp [Op.intArith, this]), hw.set1 0 (r := ⟨48, 3, (some ⟨g, 0, none⟩), 1, 1, [.int .i64 a0, .int .i64 a1, .int .i64 a2], false⟩) (j := 2) (v := .int .i64 (a2 + 1)) rfl rfl rfl⟩)) ?_
  rintro _ _ ⟨rfl, rfl⟩
  refine wr_rows (R1 := (⟨48, 3, (some ⟨g, 0, none⟩), 1, 1, [.int .i64 a0, .int .i64 a1, .int .i64 (a2 + 1)], false⟩ :: R)) rfl ?_
  refine wr_y rfl (y_assign rfl) ?_
  refine wr_nil ?_
  refine w_ret ?_
  refine ⟨_, rfl, ?_⟩
  exact ⟨rfl, rfl⟩

set_option maxRecDepth 100000 in
theorem crossNew_ct {w : World}  :
    Ct Try.prog 6 #[] w.heap.size w [] (fun v R' => ∃ g, v = .pointer (some ⟨g, 0, none⟩) ∧ R' = [⟨48, 3, (some ⟨g, 0, none⟩), 1, 1, [.int .i64 0, .int .i64 0, .int .i64 0], false⟩]) := by
  refine fn1 Try.func6 rfl rfl rfl ?_
  refine w_seq ?_
  refine w_reg ?_
  refine wr_y rfl (y_assign rfl) ?_
  refine wr_nil ?_
  refine w_seq ?_
  refine w_reg ?_
  refine wr_y rfl (y_build (v := .agg #[.int .i64 0, .int .i64 0, .int .i64 0]) rfl (fun w => by kernel_rfl)) ?_
  refine wr_a rfl (a_box (sz := 3) rfl rfl) ?_
  rintro _ _ ⟨g_1, rfl, rfl⟩
  refine wr_rows (R1 := [⟨48, 3, (some ⟨g_1, 0, none⟩), 1, 1, [.int .i64 0, .int .i64 0, .int .i64 0], false⟩]) rfl ?_
  refine wr_y rfl (y_assign rfl) ?_
  refine wr_nil ?_
  refine w_retR (R1 := [⟨48, 3, (some ⟨g_1, 0, none⟩), 1, 1, [.int .i64 0, .int .i64 0, .int .i64 0], false⟩]) (fun _ h => h.sel [0] (by decide) rfl) ?_
  refine ⟨_, rfl, ?_⟩
  exact ⟨_, rfl, rfl⟩

set_option maxRecDepth 100000 in
theorem crossSort0_ct {B : Nat} {w0 : World} {R : List Row} {g : Nat} {a0 a1 a2 : Int} {A_u : Option Addr} {n_u c_u : Nat} {u : List Int} (h_u : RdC B w0 R A_u n_u c_u 1 (ints .u8 u)) (hn_u : n_u = u.length) (bh_u : ByteL u) (hN : u.length ≤ 100000) (ha : 0 ≤ a0 ∧ a0 < 1000000) :
    Ct Try.prog 8 #[.pointer (some ⟨g, 0, none⟩), .int .i64 0, .slice A_u n_u c_u] B w0 (⟨48, 3, (some ⟨g, 0, none⟩), 1, 1, [.int .i64 a0, .int .i64 a1, .int .i64 a2], false⟩ :: R) (fun v R' => ∃ (b : List Int) (A : Option Addr) (c : Nat), v = .tuple #[.slice A u.length c, .int .i64 0] ∧ b.Perm (iota u.length) ∧ b.Pairwise (ordE u) ∧ R' = ⟨3, 1, A, u.length, c, ints .i64 b, false⟩ :: ⟨48, 3, (some ⟨g, 0, none⟩), 1, 1, [.int .i64 (a0 + 1), .int .i64 a1, .int .i64 a2], false⟩ :: R) := by
  subst hn_u
  refine fn2 Try.func8 rfl rfl rfl ?_
  refine w_seq ?_
  refine w_reg ?_
  refine wr_y rfl (y_assign rfl) ?_
  refine wr_y rfl (y_assign rfl) ?_
  refine wr_nil ?_
  refine w_seq ?_
  refine w_seq ?_
  refine w_reg ?_
  refine wr_y rfl (y_move rfl) ?_
  refine wr_y rfl (y_ptrEq Try.underlying24 rfl rfl) ?_
  refine wr_y rfl (y_move rfl) ?_
  refine wr_yes rfl rfl ?_
  refine wr_y rfl (y_move rfl) ?_
  refine wr_yes rfl rfl ?_
  refine wr_y rfl (Yl.f (y_lt rfl rfl) (by decide)) ?_
  refine wr_y rfl (y_pickF rfl rfl) ?_
  refine wr_y rfl (y_move rfl) ?_
  refine wr_yes rfl rfl ?_
  refine wr_y rfl (y_move rfl) ?_
  refine wr_yes rfl rfl ?_
  refine wr_y rfl (Yl.f (y_ge rfl rfl) (by decide)) ?_
  refine wr_y rfl (y_pickF rfl rfl) ?_
  refine wr_nil ?_
  refine w_false rfl ?_
  refine w_skip ?_
  refine w_seq ?_
  refine w_reg ?_
  refine wr_y rfl (y_build (v := .agg #[.func (.func 17) #[] #[], .func (.func 18) #[] #[], .func (.func 19) #[] #[]]) rfl (fun w => by kernel_rfl)) ?_
  refine wr_y rfl (y_move rfl) ?_
  refine wr_y rfl (y_ix (v := .func (.func 17) #[] #[]) rfl rfl (fun w => by kernel_rfl)) ?_
  refine wr_y rfl (y_assign rfl) ?_
  refine wr_nil ?_
  refine w_seq ?_
  refine w_reg ?_
  refine wr_y rfl (y_move rfl) ?_
  refine wr_y rfl (y_move rfl) ?_
  refine wr_a rfl (a_call en17 rfl rfl (Ct.fresh (fun w hw => sbytes_ct ((RdC.right h_u [_]) w hw) bh_u hN))) ?_
  rintro _ _ ⟨_, rfl, b1, A_1, c_2, rfl, hp_b1, hs_b1, rfl⟩
  refine wr_y rfl (y_move rfl) ?_
  refine wr_y rfl (y_extract rfl rfl) ?_
  refine wr_y rfl (y_extract rfl rfl) ?_
  refine wr_y rfl (y_assign rfl) ?_
  refine wr_y rfl (y_assign rfl) ?_
  refine wr_nil ?_
  refine w_seq ?_
  refine w_seq ?_
  refine w_reg ?_
  refine wr_y rfl (y_move rfl) ?_
  refine wr_y rfl (Yl.t (y_eq rfl rfl) (by decide)) ?_
  refine wr_nil ?_
  refine w_true rfl ?_
  refine w_reg ?_
  refine wr_y rfl (y_move rfl) ?_
  refine wr_y rfl (y_move rfl) ?_
  refine wr_y rfl (y_nilCheck rfl) ?_
  refine wr_y rfl (y_fieldAt (off := 0) (m := 0) Try.underlying48 rfl sz46 rfl rfl rfl) ?_
  refine wr_y rfl (y_indexIn (q := 0) (rdR 1 (r := ⟨48, 3, (some ⟨g, 0, none⟩), 1, 1, [.int .i64 a0, .int .i64 a1, .int .i64 a2], false⟩) rfl) Try.underlying46 sz45 rfl rfl (Nat.le_of_ble_eq_true rfl) (by decide) (by decide) rfl) ?_
  refine wr_a rfl (a_callF en20 rfl (Ct.at 1 rfl (add64_0_ct (by omega)))) ?_
  rintro _ _ ⟨rfl, rfl⟩
  refine wr_rows (R1 := (⟨3, 1, A_1, u.length, c_2, ints .i64 b1, false⟩ :: ⟨48, 3, (some ⟨g, 0, none⟩), 1, 1, [.int .i64 (a0 + 1), .int .i64 a1, .int .i64 a2], false⟩ :: R)) rfl ?_
  refine wr_nil ?_
  refine w_seq ?_
  refine w_reg ?_
  refine wr_y rfl (y_move rfl) ?_
  refine wr_y rfl (y_move rfl) ?_
  refine wr_y rfl (y_assign rfl) ?_
  refine wr_y rfl (y_assign rfl) ?_
  refine wr_nil ?_
  refine w_retR (R1 := (⟨3, 1, A_1, u.length, c_2, ints .i64 b1, false⟩ :: ⟨48, 3, (some ⟨g, 0, none⟩), 1, 1, [.int .i64 (a0 + 1), .int .i64 a1, .int .i64 a2], false⟩ :: R)) (fun _ h => h) ?_
  refine ⟨_, _, rfl, rfl, ?_⟩
  exact ⟨b1, _, _, rfl, hp_b1, hs_b1, rfl⟩

set_option maxRecDepth 100000 in
theorem crossSort1_ct {B : Nat} {w0 : World} {R : List Row} {g : Nat} {a0 a1 a2 : Int} {A_u : Option Addr} {n_u c_u : Nat} {u : List Int} (h_u : RdC B w0 R A_u n_u c_u 1 (ints .u8 u)) (hn_u : n_u = u.length) (bh_u : ByteL u) (hN : u.length ≤ 100000) (ha : 0 ≤ a1 ∧ a1 < 1000000) :
    Ct Try.prog 8 #[.pointer (some ⟨g, 0, none⟩), .int .i64 1, .slice A_u n_u c_u] B w0 (⟨48, 3, (some ⟨g, 0, none⟩), 1, 1, [.int .i64 a0, .int .i64 a1, .int .i64 a2], false⟩ :: R) (fun v R' => ∃ (b : List Int) (A : Option Addr) (c : Nat), v = .tuple #[.slice A u.length c, .int .i64 0] ∧ b.Perm (iota u.length) ∧ b.Pairwise (ordE u) ∧ R' = ⟨3, 1, A, u.length, c, ints .i64 b, false⟩ :: ⟨48, 3, (some ⟨g, 0, none⟩), 1, 1, [.int .i64 a0, .int .i64 (a1 + 1), .int .i64 a2], false⟩ :: R) := by
  subst hn_u
  refine fn2 Try.func8 rfl rfl rfl ?_
  refine w_seq ?_
  refine w_reg ?_
  refine wr_y rfl (y_assign rfl) ?_
  refine wr_y rfl (y_assign rfl) ?_
  refine wr_nil ?_
  refine w_seq ?_
  refine w_seq ?_
  refine w_reg ?_
  refine wr_y rfl (y_move rfl) ?_
  refine wr_y rfl (y_ptrEq Try.underlying24 rfl rfl) ?_
  refine wr_y rfl (y_move rfl) ?_
  refine wr_yes rfl rfl ?_
  refine wr_y rfl (y_move rfl) ?_
  refine wr_yes rfl rfl ?_
  refine wr_y rfl (Yl.f (y_lt rfl rfl) (by decide)) ?_
  refine wr_y rfl (y_pickF rfl rfl) ?_
  refine wr_y rfl (y_move rfl) ?_
  refine wr_yes rfl rfl ?_
  refine wr_y rfl (y_move rfl) ?_
  refine wr_yes rfl rfl ?_
  refine wr_y rfl (Yl.f (y_ge rfl rfl) (by decide)) ?_
  refine wr_y rfl (y_pickF rfl rfl) ?_
  refine wr_nil ?_
  refine w_false rfl ?_
  refine w_skip ?_
  refine w_seq ?_
  refine w_reg ?_
  refine wr_y rfl (y_build (v := .agg #[.func (.func 17) #[] #[], .func (.func 18) #[] #[], .func (.func 19) #[] #[]]) rfl (fun w => by kernel_rfl)) ?_
  refine wr_y rfl (y_move rfl) ?_
  refine wr_y rfl (y_ix (v := .func (.func 18) #[] #[]) rfl rfl (fun w => by kernel_rfl)) ?_
  refine wr_y rfl (y_assign rfl) ?_
  refine wr_nil ?_
  refine w_seq ?_
  refine w_reg ?_
  refine wr_y rfl (y_move rfl) ?_
  refine wr_y rfl (y_move rfl) ?_
  refine wr_a rfl (a_call en18 rfl rfl (Ct.fresh (fun w hw => kbytes_ct ((RdC.right h_u [_]) w hw) bh_u hN))) ?_
  rintro _ _ ⟨_, rfl, b1, A_1, c_2, rfl, hp_b1, hs_b1, rfl⟩
  refine wr_y rfl (y_move rfl) ?_
  refine wr_y rfl (y_extract rfl rfl) ?_
  refine wr_y rfl (y_extract rfl rfl) ?_
  refine wr_y rfl (y_assign rfl) ?_
  refine wr_y rfl (y_assign rfl) ?_
  refine wr_nil ?_
  refine w_seq ?_
  refine w_seq ?_
  refine w_reg ?_
  refine wr_y rfl (y_move rfl) ?_
  refine wr_y rfl (Yl.t (y_eq rfl rfl) (by decide)) ?_
  refine wr_nil ?_
  refine w_true rfl ?_
  refine w_reg ?_
  refine wr_y rfl (y_move rfl) ?_
  refine wr_y rfl (y_move rfl) ?_
  refine wr_y rfl (y_nilCheck rfl) ?_
  refine wr_y rfl (y_fieldAt (off := 0) (m := 0) Try.underlying48 rfl sz46 rfl rfl rfl) ?_
  refine wr_y rfl (y_indexIn (q := 1) (rdR 1 (r := ⟨48, 3, (some ⟨g, 0, none⟩), 1, 1, [.int .i64 a0, .int .i64 a1, .int .i64 a2], false⟩) rfl) Try.underlying46 sz45 rfl rfl (Nat.le_of_ble_eq_true rfl) (by decide) (by decide) rfl) ?_
  refine wr_a rfl (a_callF en20 rfl (Ct.at 1 rfl (add64_1_ct (by omega)))) ?_
  rintro _ _ ⟨rfl, rfl⟩
  refine wr_rows (R1 := (⟨3, 1, A_1, u.length, c_2, ints .i64 b1, false⟩ :: ⟨48, 3, (some ⟨g, 0, none⟩), 1, 1, [.int .i64 a0, .int .i64 (a1 + 1), .int .i64 a2], false⟩ :: R)) rfl ?_
  refine wr_nil ?_
  refine w_seq ?_
  refine w_reg ?_
  refine wr_y rfl (y_move rfl) ?_
  refine wr_y rfl (y_move rfl) ?_
  refine wr_y rfl (y_assign rfl) ?_
  refine wr_y rfl (y_assign rfl) ?_
  refine wr_nil ?_
  refine w_retR (R1 := (⟨3, 1, A_1, u.length, c_2, ints .i64 b1, false⟩ :: ⟨48, 3, (some ⟨g, 0, none⟩), 1, 1, [.int .i64 a0, .int .i64 (a1 + 1), .int .i64 a2], false⟩ :: R)) (fun _ h => h) ?_
  refine ⟨_, _, rfl, rfl, ?_⟩
  exact ⟨b1, _, _, rfl, hp_b1, hs_b1, rfl⟩

set_option maxRecDepth 100000 in
theorem crossSort2_ct {B : Nat} {w0 : World} {R : List Row} {g : Nat} {a0 a1 a2 : Int} {A_u : Option Addr} {n_u c_u : Nat} {u : List Int} (h_u : RdC B w0 R A_u n_u c_u 1 (ints .u8 u)) (hn_u : n_u = u.length) (bh_u : ByteL u) (hN : u.length ≤ 100000) (ha : 0 ≤ a2 ∧ a2 < 1000000) :
    Ct Try.prog 8 #[.pointer (some ⟨g, 0, none⟩), .int .i64 2, .slice A_u n_u c_u] B w0 (⟨48, 3, (some ⟨g, 0, none⟩), 1, 1, [.int .i64 a0, .int .i64 a1, .int .i64 a2], false⟩ :: R) (fun v R' => ∃ (b : List Int) (A : Option Addr) (c : Nat), v = .tuple #[.slice A u.length c, .int .i64 0] ∧ b.Perm (iota u.length) ∧ b.Pairwise (ordE u) ∧ R' = ⟨3, 1, A, u.length, c, ints .i64 b, false⟩ :: ⟨48, 3, (some ⟨g, 0, none⟩), 1, 1, [.int .i64 a0, .int .i64 a1, .int .i64 (a2 + 1)], false⟩ :: R) := by
  subst hn_u
  refine fn2 Try.func8 rfl rfl rfl ?_
  refine w_seq ?_
  refine w_reg ?_
  refine wr_y rfl (y_assign rfl) ?_
  refine wr_y rfl (y_assign rfl) ?_
  refine wr_nil ?_
  refine w_seq ?_
  refine w_seq ?_
  refine w_reg ?_
  refine wr_y rfl (y_move rfl) ?_
  refine wr_y rfl (y_ptrEq Try.underlying24 rfl rfl) ?_
  refine wr_y rfl (y_move rfl) ?_
  refine wr_yes rfl rfl ?_
  refine wr_y rfl (y_move rfl) ?_
  refine wr_yes rfl rfl ?_
  refine wr_y rfl (Yl.f (y_lt rfl rfl) (by decide)) ?_
  refine wr_y rfl (y_pickF rfl rfl) ?_
  refine wr_y rfl (y_move rfl) ?_
  refine wr_yes rfl rfl ?_
  refine wr_y rfl (y_move rfl) ?_
  refine wr_yes rfl rfl ?_
  refine wr_y rfl (Yl.f (y_ge rfl rfl) (by decide)) ?_
  refine wr_y rfl (y_pickF rfl rfl) ?_
  refine wr_nil ?_
  refine w_false rfl ?_
  refine w_skip ?_
  refine w_seq ?_
  refine w_reg ?_
  refine wr_y rfl (y_build (v := .agg #[.func (.func 17) #[] #[], .func (.func 18) #[] #[], .func (.func 19) #[] #[]]) rfl (fun w => by kernel_rfl)) ?_
  refine wr_y rfl (y_move rfl) ?_
  refine wr_y rfl (y_ix (v := .func (.func 19) #[] #[]) rfl rfl (fun w => by kernel_rfl)) ?_
  refine wr_y rfl (y_assign rfl) ?_
  refine wr_nil ?_
  refine w_seq ?_
  refine w_reg ?_
  refine wr_y rfl (y_move rfl) ?_
  refine wr_y rfl (y_move rfl) ?_
  refine wr_a rfl (a_call en19 rfl rfl (Ct.fresh (fun w hw => bytes15_ct ((RdC.right h_u [_]) w hw) bh_u hN))) ?_
  rintro _ _ ⟨_, rfl, o1, A_1, c_2, rfl, hl_o1, hq_o1, rfl⟩
  refine wr_y rfl (y_move rfl) ?_
  refine wr_y rfl (y_extract rfl rfl) ?_
  refine wr_y rfl (y_extract rfl rfl) ?_
  refine wr_y rfl (y_assign rfl) ?_
  refine wr_y rfl (y_assign rfl) ?_
  refine wr_nil ?_
  refine w_seq ?_
  refine w_seq ?_
  refine w_reg ?_
  refine wr_y rfl (y_move rfl) ?_
  refine wr_y rfl (Yl.t (y_eq rfl rfl) (by decide)) ?_
  refine wr_nil ?_
  refine w_true rfl ?_
  refine w_reg ?_
  refine wr_y rfl (y_move rfl) ?_
  refine wr_y rfl (y_move rfl) ?_
  refine wr_y rfl (y_nilCheck rfl) ?_
  refine wr_y rfl (y_fieldAt (off := 0) (m := 0) Try.underlying48 rfl sz46 rfl rfl rfl) ?_
  refine wr_y rfl (y_indexIn (q := 2) (rdR 1 (r := ⟨48, 3, (some ⟨g, 0, none⟩), 1, 1, [.int .i64 a0, .int .i64 a1, .int .i64 a2], false⟩) rfl) Try.underlying46 sz45 rfl rfl (Nat.le_of_ble_eq_true rfl) (by decide) (by decide) rfl) ?_
  refine wr_a rfl (a_callF en20 rfl (Ct.at 1 rfl (add64_2_ct (by omega)))) ?_
  rintro _ _ ⟨rfl, rfl⟩
  refine wr_rows (R1 := (⟨3, 1, A_1, u.length, c_2, ints .i64 o1, false⟩ :: ⟨48, 3, (some ⟨g, 0, none⟩), 1, 1, [.int .i64 a0, .int .i64 a1, .int .i64 (a2 + 1)], false⟩ :: R)) rfl ?_
  refine wr_nil ?_
  refine w_seq ?_
  refine w_reg ?_
  refine wr_y rfl (y_move rfl) ?_
  refine wr_y rfl (y_move rfl) ?_
  refine wr_y rfl (y_assign rfl) ?_
  refine wr_y rfl (y_assign rfl) ?_
  refine wr_nil ?_
  refine w_retR (R1 := (⟨3, 1, A_1, u.length, c_2, ints .i64 o1, false⟩ :: ⟨48, 3, (some ⟨g, 0, none⟩), 1, 1, [.int .i64 a0, .int .i64 a1, .int .i64 (a2 + 1)], false⟩ :: R)) (fun _ h => h) ?_
  refine ⟨_, _, rfl, rfl, ?_⟩
  obtain ⟨b, hb, hs⟩ := order_exists u
  obtain rfl := places hb hs hl_o1 hq_o1
  exact ⟨o1, _, _, rfl, hb, hs, rfl⟩

set_option maxRecDepth 100000 in
theorem crossRun_ct {B : Nat} {w0 : World} {R : List Row} {g : Nat} {a0 a1 a2 : Int} {A_u : Option Addr} {n_u c_u : Nat} {u : List Int} (h_u : RdC B w0 R A_u n_u c_u 1 (ints .u8 u)) (hn_u : n_u = u.length) (bh_u : ByteL u) (hN : u.length ≤ 100000) (ha : (0 ≤ a0 ∧ a0 < 1000000) ∧ (0 ≤ a1 ∧ a1 < 1000000) ∧ (0 ≤ a2 ∧ a2 < 1000000)) :
    Ct Try.prog 7 #[.pointer (some ⟨g, 0, none⟩), .slice A_u n_u c_u] B w0 (⟨48, 3, (some ⟨g, 0, none⟩), 1, 1, [.int .i64 a0, .int .i64 a1, .int .i64 a2], false⟩ :: R) (fun v R' => ∃ (b : List Int) (A A2 : Option Addr) (c c2 : Nat), v = .tuple #[.agg #[.slice A u.length c, .slice A2 u.length c2, .bool true], .int .i64 0] ∧ b.Perm (iota u.length) ∧ b.Pairwise (ordE u) ∧ R' = ⟨3, 1, A, u.length, c, ints .i64 b, false⟩ :: ⟨3, 1, A2, u.length, c2, ints .i64 (lcpV u b), false⟩ :: ⟨48, 3, (some ⟨g, 0, none⟩), 1, 1, [.int .i64 (a0 + 1), .int .i64 (a1 + 1), .int .i64 (a2 + 1)], false⟩ :: R) := by
  subst hn_u
  refine fnCT Try.func7 rfl rfl rfl Try.underlying28 rfl sz28 ?_
  refine w_seq ?_
  refine w_reg ?_
  refine wr_a rfl (a_alloc (sz := 3) zz28 rfl) ?_
  rintro _ _ ⟨g_1, rfl, rfl⟩
  refine wr_rows (R1 := (⟨28, 3, (some ⟨g_1, 0, none⟩), 1, 1, [.slice none 0 0, .slice none 0 0, .bool false], false⟩ :: ⟨48, 3, (some ⟨g, 0, none⟩), 1, 1, [.int .i64 a0, .int .i64 a1, .int .i64 a2], false⟩ :: R)) rfl ?_
  refine wr_y rfl (y_assign rfl) ?_
  refine wr_nil ?_
  refine w_seq ?_
  refine w_reg ?_
  refine wr_a rfl (a_alloc (sz := 3) zz49 rfl) ?_
  rintro _ _ ⟨g_2, rfl, rfl⟩
  refine wr_rows (R1 := (⟨49, 3, (some ⟨g_2, 0, none⟩), 1, 1, [.slice none 0 0, .slice none 0 0, .slice none 0 0], false⟩ :: ⟨28, 3, (some ⟨g_1, 0, none⟩), 1, 1, [.slice none 0 0, .slice none 0 0, .bool false], false⟩ :: ⟨48, 3, (some ⟨g, 0, none⟩), 1, 1, [.int .i64 a0, .int .i64 a1, .int .i64 a2], false⟩ :: R)) rfl ?_
  refine wr_nil ?_
  refine w_seq ?_
  refine w_seq ?_
  refine w_reg ?_
  refine wr_y rfl (y_move rfl) ?_
  refine wr_nil ?_
  refine w_block ?_
  refine w_rounds 4 ?_
  refine w_round ?_
  refine w_seq ?_
  refine w_reg ?_
  refine wr_y rfl (Yl.t (y_lt rfl rfl) (by decide)) ?_
  refine wr_nil ?_
  refine w_seq ?_
  refine w_true rfl ?_
  refine w_skip ?_
  refine w_seq ?_
  refine w_block ?_
  refine w_seq ?_
  refine w_reg ?_
  refine wr_y rfl (y_move rfl) ?_
  refine wr_y rfl (y_assign rfl) ?_
  refine wr_nil ?_
  refine w_seq ?_
  refine w_reg ?_
  refine wr_y rfl (y_move rfl) ?_
  refine wr_y rfl (y_move rfl) ?_
  refine wr_y rfl (y_move rfl) ?_
  refine wr_a rfl (a_callF en8 rfl (Ct.sub (R1 := (⟨48, 3, (some ⟨g, 0, none⟩), 1, 1, [.int .i64 a0, .int .i64 a1, .int .i64 a2], false⟩ :: ⟨49, 3, (some ⟨g_2, 0, none⟩), 1, 1, [.slice none 0 0, .slice none 0 0, .slice none 0 0], false⟩ :: ⟨28, 3, (some ⟨g_1, 0, none⟩), 1, 1, [.slice none 0 0, .slice none 0 0, .bool false], false⟩ :: R)) (fun _ h => h.selR (F := [_, _, _]) (F' := [_, _, _]) [2, 0, 1] (by decide) rfl) (crossSort0_ct (RdC.right h_u [_, _]) (by first | rfl | (simp; done) | omega) bh_u hN (by omega)))) ?_
  rintro _ _ ⟨b0, A_3, c_4, rfl, hp_b0, hs_b0, rfl⟩
  refine wr_y rfl (y_move rfl) ?_
  refine wr_y rfl (y_extract rfl rfl) ?_
  refine wr_y rfl (y_extract rfl rfl) ?_
  refine wr_y rfl (y_assign rfl) ?_
  refine wr_y rfl (y_assign rfl) ?_
  refine wr_nil ?_
  refine w_seq ?_
  refine w_seq ?_
  refine w_reg ?_
  refine wr_y rfl (y_move rfl) ?_
  refine wr_y rfl (Yl.f (y_ne rfl rfl) (by decide)) ?_
  refine wr_nil ?_
  refine w_false rfl ?_
  refine w_skip ?_
  refine w_reg ?_
  refine wr_y rfl (y_move rfl) ?_
  refine wr_y rfl (y_move rfl) ?_
  refine wr_y rfl (y_indexIn (q := 0) (rdR 2 (r := ⟨49, 3, (some ⟨g_2, 0, none⟩), 1, 1, [.slice none 0 0, .slice none 0 0, .slice none 0 0], false⟩) rfl) Try.underlying49 sz22 rfl rfl (Nat.le_of_ble_eq_true rfl) (by decide) (by decide) rfl) ?_
  refine wr_n (a_storeAt 2 rfl rfl rfl sz22 rfl rfl rfl rfl (Nat.le_of_ble_eq_true rfl)) ?_
  rintro _ _ rfl
  refine wr_rows (R1 := (⟨3, 1, A_3, u.length, c_4, ints .i64 b0, false⟩ :: ⟨48, 3, (some ⟨g, 0, none⟩), 1, 1, [.int .i64 (a0 + 1), .int .i64 a1, .int .i64 a2], false⟩ :: ⟨49, 3, (some ⟨g_2, 0, none⟩), 1, 1, [.slice A_3 u.length c_4, .slice none 0 0, .slice none 0 0], false⟩ :: ⟨28, 3, (some ⟨g_1, 0, none⟩), 1, 1, [.slice none 0 0, .slice none 0 0, .bool false], false⟩ :: R)) rfl ?_
  refine wr_nil ?_
  refine w_reg ?_
  refine wr_y rfl (Yl.is (y_addI rfl rfl (by omega)) rfl) ?_
  refine wr_y rfl (y_move rfl) ?_
  refine wr_nil ?_
  refine w_round ?_
  refine w_seq ?_
  refine w_reg ?_
  refine wr_y rfl (Yl.t (y_lt rfl rfl) (by decide)) ?_
  refine wr_nil ?_
  refine w_seq ?_
  refine w_true rfl ?_
  refine w_skip ?_
  refine w_seq ?_
  refine w_block ?_
  refine w_seq ?_
  refine w_reg ?_
  refine wr_y rfl (y_move rfl) ?_
  refine wr_y rfl (y_assign rfl) ?_
  refine wr_nil ?_
  refine w_seq ?_
  refine w_reg ?_
  refine wr_y rfl (y_move rfl) ?_
  refine wr_y rfl (y_move rfl) ?_
  refine wr_y rfl (y_move rfl) ?_
  refine wr_a rfl (a_callF en8 rfl (Ct.sub (R1 := (⟨48, 3, (some ⟨g, 0, none⟩), 1, 1, [.int .i64 (a0 + 1), .int .i64 a1, .int .i64 a2], false⟩ :: ⟨3, 1, A_3, u.length, c_4, ints .i64 b0, false⟩ :: ⟨49, 3, (some ⟨g_2, 0, none⟩), 1, 1, [.slice A_3 u.length c_4, .slice none 0 0, .slice none 0 0], false⟩ :: ⟨28, 3, (some ⟨g_1, 0, none⟩), 1, 1, [.slice none 0 0, .slice none 0 0, .bool false], false⟩ :: R)) (fun _ h => h.selR (F := [_, _, _, _]) (F' := [_, _, _, _]) [1, 0, 2, 3] (by decide) rfl) (crossSort1_ct (RdC.right h_u [_, _, _]) (by first | rfl | (simp; done) | omega) bh_u hN (by omega)))) ?_
  rintro _ _ ⟨b1, A_6, c_7, rfl, hp_b1, hs_b1, rfl⟩
  refine wr_y rfl (y_move rfl) ?_
  refine wr_y rfl (y_extract rfl rfl) ?_
  refine wr_y rfl (y_extract rfl rfl) ?_
  refine wr_y rfl (y_assign rfl) ?_
  refine wr_y rfl (y_assign rfl) ?_
  refine wr_nil ?_
  refine w_seq ?_
  refine w_seq ?_
  refine w_reg ?_
  refine wr_y rfl (y_move rfl) ?_
  refine wr_y rfl (Yl.f (y_ne rfl rfl) (by decide)) ?_
  refine wr_nil ?_
  refine w_false rfl ?_
  refine w_skip ?_
  refine w_reg ?_
  refine wr_y rfl (y_move rfl) ?_
  refine wr_y rfl (y_move rfl) ?_
  refine wr_y rfl (y_indexIn (q := 1) (rdR 3 (r := ⟨49, 3, (some ⟨g_2, 0, none⟩), 1, 1, [.slice A_3 u.length c_4, .slice none 0 0, .slice none 0 0], false⟩) rfl) Try.underlying49 sz22 rfl rfl (Nat.le_of_ble_eq_true rfl) (by decide) (by decide) rfl) ?_
  refine wr_n (a_storeAt 3 rfl rfl rfl sz22 rfl rfl rfl rfl (Nat.le_of_ble_eq_true rfl)) ?_
  rintro _ _ rfl
  refine wr_rows (R1 := (⟨3, 1, A_6, u.length, c_7, ints .i64 b1, false⟩ :: ⟨48, 3, (some ⟨g, 0, none⟩), 1, 1, [.int .i64 (a0 + 1), .int .i64 (a1 + 1), .int .i64 a2], false⟩ :: ⟨3, 1, A_3, u.length, c_4, ints .i64 b0, false⟩ :: ⟨49, 3, (some ⟨g_2, 0, none⟩), 1, 1, [.slice A_3 u.length c_4, .slice A_6 u.length c_7, .slice none 0 0], false⟩ :: ⟨28, 3, (some ⟨g_1, 0, none⟩), 1, 1, [.slice none 0 0, .slice none 0 0, .bool false], false⟩ :: R)) rfl ?_
  refine wr_nil ?_
  refine w_reg ?_
  refine wr_y rfl (Yl.is (y_addI rfl rfl (by omega)) rfl) ?_
  refine wr_y rfl (y_move rfl) ?_
  refine wr_nil ?_
  refine w_round ?_
  refine w_seq ?_
  refine w_reg ?_
  refine wr_y rfl (Yl.t (y_lt rfl rfl) (by decide)) ?_
  refine wr_nil ?_
  refine w_seq ?_
  refine w_true rfl ?_
  refine w_skip ?_
  refine w_seq ?_
  refine w_block ?_
  refine w_seq ?_
  refine w_reg ?_
  refine wr_y rfl (y_move rfl) ?_
  refine wr_y rfl (y_assign rfl) ?_
  refine wr_nil ?_
  refine w_seq ?_
  refine w_reg ?_
  refine wr_y rfl (y_move rfl) ?_
  refine wr_y rfl (y_move rfl) ?_
  refine wr_y rfl (y_move rfl) ?_
  refine wr_a rfl (a_callF en8 rfl (Ct.sub (R1 := (⟨48, 3, (some ⟨g, 0, none⟩), 1, 1, [.int .i64 (a0 + 1), .int .i64 (a1 + 1), .int .i64 a2], false⟩ :: ⟨3, 1, A_6, u.length, c_7, ints .i64 b1, false⟩ :: ⟨3, 1, A_3, u.length, c_4, ints .i64 b0, false⟩ :: ⟨49, 3, (some ⟨g_2, 0, none⟩), 1, 1, [.slice A_3 u.length c_4, .slice A_6 u.length c_7, .slice none 0 0], false⟩ :: ⟨28, 3, (some ⟨g_1, 0, none⟩), 1, 1, [.slice none 0 0, .slice none 0 0, .bool false], false⟩ :: R)) (fun _ h => h.selR (F := [_, _, _, _, _]) (F' := [_, _, _, _, _]) [1, 0, 2, 3, 4] (by decide) rfl) (crossSort2_ct (RdC.right h_u [_, _, _, _]) (by first | rfl | (simp; done) | omega) bh_u hN (by omega)))) ?_
  rintro _ _ ⟨b2, A_9, c_10, rfl, hp_b2, hs_b2, rfl⟩
  refine wr_y rfl (y_move rfl) ?_
  refine wr_y rfl (y_extract rfl rfl) ?_
  refine wr_y rfl (y_extract rfl rfl) ?_
  refine wr_y rfl (y_assign rfl) ?_
  refine wr_y rfl (y_assign rfl) ?_
  refine wr_nil ?_
  refine w_seq ?_
  refine w_seq ?_
  refine w_reg ?_
  refine wr_y rfl (y_move rfl) ?_
  refine wr_y rfl (Yl.f (y_ne rfl rfl) (by decide)) ?_
  refine wr_nil ?_
  refine w_false rfl ?_
  refine w_skip ?_
  refine w_reg ?_
  refine wr_y rfl (y_move rfl) ?_
  refine wr_y rfl (y_move rfl) ?_
  refine wr_y rfl (y_indexIn (q := 2) (rdR 4 (r := ⟨49, 3, (some ⟨g_2, 0, none⟩), 1, 1, [.slice A_3 u.length c_4, .slice A_6 u.length c_7, .slice none 0 0], false⟩) rfl) Try.underlying49 sz22 rfl rfl (Nat.le_of_ble_eq_true rfl) (by decide) (by decide) rfl) ?_
  refine wr_n (a_storeAt 4 rfl rfl rfl sz22 rfl rfl rfl rfl (Nat.le_of_ble_eq_true rfl)) ?_
  rintro _ _ rfl
  refine wr_rows (R1 := (⟨3, 1, A_9, u.length, c_10, ints .i64 b2, false⟩ :: ⟨48, 3, (some ⟨g, 0, none⟩), 1, 1, [.int .i64 (a0 + 1), .int .i64 (a1 + 1), .int .i64 (a2 + 1)], false⟩ :: ⟨3, 1, A_6, u.length, c_7, ints .i64 b1, false⟩ :: ⟨3, 1, A_3, u.length, c_4, ints .i64 b0, false⟩ :: ⟨49, 3, (some ⟨g_2, 0, none⟩), 1, 1, [.slice A_3 u.length c_4, .slice A_6 u.length c_7, .slice A_9 u.length c_10], false⟩ :: ⟨28, 3, (some ⟨g_1, 0, none⟩), 1, 1, [.slice none 0 0, .slice none 0 0, .bool false], false⟩ :: R)) rfl ?_
  refine wr_nil ?_
  refine w_reg ?_
  refine wr_y rfl (Yl.is (y_addI rfl rfl (by omega)) rfl) ?_
  refine wr_y rfl (y_move rfl) ?_
  refine wr_nil ?_
  refine w_round ?_
  refine w_seq ?_
  refine w_reg ?_
  refine wr_y rfl (Yl.f (y_lt rfl rfl) (by decide)) ?_
  refine wr_nil ?_
  refine w_seq ?_
  refine w_false rfl ?_
  refine w_exit ?_
  refine w_seq ?_
  refine w_reg ?_
  refine wr_y rfl (y_move rfl) ?_
  refine wr_y rfl (y_indexIn (q := 0) (rdR 4 (r := ⟨49, 3, (some ⟨g_2, 0, none⟩), 1, 1, [.slice A_3 u.length c_4, .slice A_6 u.length c_7, .slice A_9 u.length c_10], false⟩) rfl) Try.underlying49 sz22 rfl rfl (Nat.le_of_ble_eq_true rfl) (by decide) (by decide) rfl) ?_
  refine wr_y rfl (y_ldIn (rdR 4 (r := ⟨49, 3, (some ⟨g_2, 0, none⟩), 1, 1, [.slice A_3 u.length c_4, .slice A_6 u.length c_7, .slice A_9 u.length c_10], false⟩) rfl) Try.underlying22 rfl rfl rfl) ?_
  refine wr_a rfl (a_callF en13 rfl (Ct.fresh (fun w hw => lcp17_ct ((RdC.right h_u [_, _, _, _, _, _]) w hw) ((rdr 3 rfl) w hw) hp_b0 hs_b0 (by omega)))) ?_
  rintro _ _ ⟨_, rfl, A_12, c_13, rfl, rfl⟩
  refine wr_y rfl (y_move rfl) ?_
  refine wr_y rfl (y_extract rfl rfl) ?_
  refine wr_y rfl (y_extract rfl rfl) ?_
  refine wr_y rfl (y_assign rfl) ?_
  refine wr_y rfl (y_assign rfl) ?_
  refine wr_nil ?_
  refine w_seq ?_
  refine w_reg ?_
  refine wr_y rfl (y_move rfl) ?_
  refine wr_y rfl (y_indexIn (q := 0) (rdR 5 (r := ⟨49, 3, (some ⟨g_2, 0, none⟩), 1, 1, [.slice A_3 u.length c_4, .slice A_6 u.length c_7, .slice A_9 u.length c_10], false⟩) rfl) Try.underlying49 sz22 rfl rfl (Nat.le_of_ble_eq_true rfl) (by decide) (by decide) rfl) ?_
  refine wr_y rfl (y_ldIn (rdR 5 (r := ⟨49, 3, (some ⟨g_2, 0, none⟩), 1, 1, [.slice A_3 u.length c_4, .slice A_6 u.length c_7, .slice A_9 u.length c_10], false⟩) rfl) Try.underlying22 rfl rfl rfl) ?_
  refine wr_a rfl (a_callF en14 rfl (Ct.fresh (fun w hw => lcp18_ct ((RdC.right h_u [_, _, _, _, _, _, _]) w hw) ((rdr 4 rfl) w hw) hp_b0 hs_b0 (by omega)))) ?_
  rintro _ _ ⟨_, rfl, A_15, c_16, rfl, rfl⟩
  refine wr_y rfl (y_move rfl) ?_
  refine wr_y rfl (y_extract rfl rfl) ?_
  refine wr_y rfl (y_extract rfl rfl) ?_
  refine wr_y rfl (y_assign rfl) ?_
  refine wr_y rfl (y_assign rfl) ?_
  refine wr_nil ?_
  refine w_seq ?_
  refine w_reg ?_
  refine wr_y rfl (y_indexIn (q := 0) (rdR 6 (r := ⟨49, 3, (some ⟨g_2, 0, none⟩), 1, 1, [.slice A_3 u.length c_4, .slice A_6 u.length c_7, .slice A_9 u.length c_10], false⟩) rfl) Try.underlying49 sz22 rfl rfl (Nat.le_of_ble_eq_true rfl) (by decide) (by decide) rfl) ?_
  refine wr_y rfl (y_ldIn (rdR 6 (r := ⟨49, 3, (some ⟨g_2, 0, none⟩), 1, 1, [.slice A_3 u.length c_4, .slice A_6 u.length c_7, .slice A_9 u.length c_10], false⟩) rfl) Try.underlying22 rfl rfl rfl) ?_
  refine wr_y rfl (y_indexIn (q := 1) (rdR 6 (r := ⟨49, 3, (some ⟨g_2, 0, none⟩), 1, 1, [.slice A_3 u.length c_4, .slice A_6 u.length c_7, .slice A_9 u.length c_10], false⟩) rfl) Try.underlying49 sz22 rfl rfl (Nat.le_of_ble_eq_true rfl) (by decide) (by decide) rfl) ?_
  refine wr_y rfl (y_ldIn (rdR 6 (r := ⟨49, 3, (some ⟨g_2, 0, none⟩), 1, 1, [.slice A_3 u.length c_4, .slice A_6 u.length c_7, .slice A_9 u.length c_10], false⟩) rfl) Try.underlying22 rfl rfl rfl) ?_
  refine wr_a rfl (a_callF en15 rfl (Ct.quiet (fun w hw => equalI_ct ((rdr 5 rfl) w hw) ((rdr 4 rfl) w hw) (by rw [hp_b0.length_eq, iota_len]; omega)))) ?_
  rintro _ _ ⟨rfl, rfl⟩
  refine wr_setT 51 rfl (one_orderE hp_b0 hp_b1 hs_b0 hs_b1) ?_
  refine wr_y rfl (y_move rfl) ?_
  refine wr_yes rfl rfl ?_
  refine wr_y rfl (y_indexIn (q := 0) (rdR 6 (r := ⟨49, 3, (some ⟨g_2, 0, none⟩), 1, 1, [.slice A_3 u.length c_4, .slice A_6 u.length c_7, .slice A_9 u.length c_10], false⟩) rfl) Try.underlying49 sz22 rfl rfl (Nat.le_of_ble_eq_true rfl) (by decide) (by decide) rfl) ?_
  refine wr_yes rfl rfl ?_
  refine wr_y rfl (y_ldIn (rdR 6 (r := ⟨49, 3, (some ⟨g_2, 0, none⟩), 1, 1, [.slice A_3 u.length c_4, .slice A_6 u.length c_7, .slice A_9 u.length c_10], false⟩) rfl) Try.underlying22 rfl rfl rfl) ?_
  refine wr_yes rfl rfl ?_
  refine wr_y rfl (y_indexIn (q := 2) (rdR 6 (r := ⟨49, 3, (some ⟨g_2, 0, none⟩), 1, 1, [.slice A_3 u.length c_4, .slice A_6 u.length c_7, .slice A_9 u.length c_10], false⟩) rfl) Try.underlying49 sz22 rfl rfl (Nat.le_of_ble_eq_true rfl) (by decide) (by decide) rfl) ?_
  refine wr_yes rfl rfl ?_
  refine wr_y rfl (y_ldIn (rdR 6 (r := ⟨49, 3, (some ⟨g_2, 0, none⟩), 1, 1, [.slice A_3 u.length c_4, .slice A_6 u.length c_7, .slice A_9 u.length c_10], false⟩) rfl) Try.underlying22 rfl rfl rfl) ?_
  refine wr_yes rfl rfl ?_
  refine wr_a rfl (a_callF en15 rfl (Ct.quiet (fun w hw => equalI_ct ((rdr 5 rfl) w hw) ((rdr 2 rfl) w hw) (by rw [hp_b0.length_eq, iota_len]; omega)))) ?_
  rintro _ _ ⟨rfl, rfl⟩
  refine wr_setT 57 rfl (one_orderE hp_b0 hp_b2 hs_b0 hs_b2) ?_
  refine wr_y rfl (y_pickT rfl rfl) ?_
  refine wr_y rfl (y_move rfl) ?_
  refine wr_yes rfl rfl ?_
  refine wr_y rfl (y_move rfl) ?_
  refine wr_yes rfl rfl ?_
  refine wr_y rfl (y_move rfl) ?_
  refine wr_yes rfl rfl ?_
  refine wr_a rfl (a_callF en15 rfl (Ct.quiet (fun w hw => equalI_ct ((rdr 1 rfl) w hw) ((rdr 0 rfl) w hw) (by rw [lcpV_len, hp_b0.length_eq, iota_len]; omega)))) ?_
  rintro _ _ ⟨rfl, rfl⟩
  refine wr_setT 62 rfl (rfl) ?_
  refine wr_y rfl (y_pickT rfl rfl) ?_
  refine wr_y rfl (y_assign rfl) ?_
  refine wr_nil ?_
  refine w_seq ?_
  refine w_regd mixed ?_
  refine wd_y 0 rfl (by kernel_rfl) rfl (y_indexIn (q := 0) (rdR 6 (r := ⟨49, 3, (some ⟨g_2, 0, none⟩), 1, 1, [.slice A_3 u.length c_4, .slice A_6 u.length c_7, .slice A_9 u.length c_10], false⟩) rfl) Try.underlying49 sz22 rfl rfl (Nat.le_of_ble_eq_true rfl) (by decide) (by decide) rfl) ?_
  refine wd_y 1 rfl (by kernel_rfl) rfl (y_ldIn (rdR 6 (r := ⟨49, 3, (some ⟨g_2, 0, none⟩), 1, 1, [.slice A_3 u.length c_4, .slice A_6 u.length c_7, .slice A_9 u.length c_10], false⟩) rfl) Try.underlying22 rfl rfl rfl) ?_
  refine wd_y 2 rfl (by kernel_rfl) rfl (y_move rfl) ?_
  refine wd_y 3 rfl (by kernel_rfl) rfl (y_move rfl) ?_
  refine wd_y 4 rfl (by kernel_rfl) rfl (y_move rfl) ?_
  refine wd_yg 5 rfl (by kernel_rfl) rfl rfl rfl (y_move rfl) ?_
  refine wd_yg 6 rfl (by kernel_rfl) rfl rfl rfl (y_indexIn (q := 0) (rdR 6 (r := ⟨49, 3, (some ⟨g_2, 0, none⟩), 1, 1, [.slice A_3 u.length c_4, .slice A_6 u.length c_7, .slice A_9 u.length c_10], false⟩) rfl) Try.underlying49 sz22 rfl rfl (Nat.le_of_ble_eq_true rfl) (by decide) (by decide) rfl) ?_
  refine wd_yg 7 rfl (by kernel_rfl) rfl rfl rfl (y_ldIn (rdR 6 (r := ⟨49, 3, (some ⟨g_2, 0, none⟩), 1, 1, [.slice A_3 u.length c_4, .slice A_6 u.length c_7, .slice A_9 u.length c_10], false⟩) rfl) Try.underlying22 rfl rfl rfl) ?_
  refine wd_yg 8 rfl (by kernel_rfl) rfl rfl rfl (y_move rfl) ?_
  refine wd_ag 9 rfl (by kernel_rfl) rfl rfl rfl (a_callF en16 rfl (Ct.quiet (fun w hw => lcp19_ct ((RdC.right h_u [_, _, _, _, _, _, _, _]) w hw) ((rdr 5 rfl) w hw) ((rdr 1 rfl) w hw) hp_b0 hs_b0 (by omega) rfl))) ?_
  rintro _ _ ⟨rfl, rfl⟩
  refine ⟨.inr fun _ h => h, ?_⟩
  refine wd_as (v := .bool true) (congrArg Value.bool (decide_eq_true (trivial))) ?_
  refine wd_y 10 rfl (by kernel_rfl) rfl (y_pickT rfl rfl) ?_
  refine wd_y 11 rfl (by kernel_rfl) rfl (y_build (v := .agg #[.slice A_3 u.length c_4, .slice A_12 ((b0).length) c_13, .bool true]) rfl (fun w => by kernel_rfl)) ?_
  refine wd_n 12 rfl (by kernel_rfl) (a_storeAll (vs := [.slice A_3 u.length c_4, .slice A_12 ((b0).length) c_13, .bool true]) 7 rfl sz28 rfl rfl rfl (by intro v hv; simp at hv; rcases hv with rfl | rfl | rfl <;> rfl) rfl) ?_
  rintro _ _ rfl
  refine ⟨.inl (by kernel_rfl), ?_⟩
  refine wd_rows (R1 := (⟨3, 1, A_15, ((b0).length), c_16, ints .i64 (lcpV u b0), false⟩ :: ⟨3, 1, A_12, ((b0).length), c_13, ints .i64 (lcpV u b0), false⟩ :: ⟨3, 1, A_9, u.length, c_10, ints .i64 b2, false⟩ :: ⟨48, 3, (some ⟨g, 0, none⟩), 1, 1, [.int .i64 (a0 + 1), .int .i64 (a1 + 1), .int .i64 (a2 + 1)], false⟩ :: ⟨3, 1, A_6, u.length, c_7, ints .i64 b1, false⟩ :: ⟨3, 1, A_3, u.length, c_4, ints .i64 b0, false⟩ :: ⟨49, 3, (some ⟨g_2, 0, none⟩), 1, 1, [.slice A_3 u.length c_4, .slice A_6 u.length c_7, .slice A_9 u.length c_10], false⟩ :: ⟨28, 3, (some ⟨g_1, 0, none⟩), 1, 1, [.slice A_3 u.length c_4, .slice A_12 ((b0).length) c_13, .bool true], false⟩ :: R)) rfl ?_
  refine wd_y 13 rfl (by kernel_rfl) rfl (y_assign rfl) ?_
  refine wd_nil (by kernel_rfl) ?_
  refine w_ret ?_
  refine ⟨_, 7, _, rfl, rfl, rfl, rfl, rfl, rfl, rfl, _, rfl, (⟨3, 1, A_3, u.length, c_4, ints .i64 b0, false⟩ :: ⟨3, 1, A_12, ((b0).length), c_13, ints .i64 (lcpV u b0), false⟩ :: ⟨48, 3, (some ⟨g, 0, none⟩), 1, 1, [.int .i64 (a0 + 1), .int .i64 (a1 + 1), .int .i64 (a2 + 1)], false⟩ :: R), fun _ h => h.selR (F := [_, _, _, _, _, _, _, _]) (F' := [_, _, _]) [5, 1, 3] (by decide) rfl, ?_⟩
  have e : b0.length = u.length := by rw [hp_b0.length_eq, iota_len]
  rw [e]
  exact ⟨b0, _, _, _, _, rfl, hp_b0, hs_b0, rfl⟩

end Go.Proofs.Ytipnciohgbjjhaa

/-! ## K5 -/
namespace Go.Proofs.Ytipnciohgbjjhaa
open Go Go.Eng Go.Pure
set_option linter.unusedVariables false
set_option maxRecDepth 100000 in
theorem load64_0_ct {B : Nat} {w0 : World} {R : List Row} {g : Nat} {a0 a1 a2 : Int} :
    Ct Try.prog 23 #[.pointer (some ⟨g, 0, none⟩)] B w0 (⟨48, 3, (some ⟨g, 0, none⟩), 1, 1, [.int .i64 a0, .int .i64 a1, .int .i64 a2], false⟩ :: R) (fun v R' => v = .int .i64 a0 ∧ R' = ⟨48, 3, (some ⟨g, 0, none⟩), 1, 1, [.int .i64 a0, .int .i64 a1, .int .i64 a2], false⟩ :: R) := by
  refine fn1 Try.func23 rfl rfl rfl ?_
  refine w_seq ?_
  refine w_reg ?_
  refine wr_y rfl (y_assign rfl) ?_
  refine wr_nil ?_
  refine w_seq ?_
  refine w_reg ?_
  refine wr_y rfl (y_move rfl) ?_
  refine wr_y rfl (y_nilCheck rfl) ?_
  refine wr_y rfl (y_fieldAt (off := 0) (m := 0) Try.underlying45 rfl sz2 rfl rfl rfl) ?_
  refine wr_a rfl (a_ext rfl (fun w hw => ⟨_, run_call_load (P := Try.prog) Try.func35 (by kernel_rfl) (by kernel_rfl) (by kernel_rfl) .i64 (by kernel_rfl) (hw.cellAt 0 (r := ⟨48, 3, (some ⟨g, 0, none⟩), 1, 1, [.int .i64 a0, .int .i64 a1, .int .i64 a2], false⟩) (j := 0) rfl rfl rfl), hw⟩)) ?_
  rintro _ _ ⟨rfl, rfl⟩
  refine wr_y rfl (y_assign rfl) ?_
  refine wr_nil ?_
  refine w_ret ?_
  refine ⟨_, rfl, ?_⟩
  exact ⟨rfl, rfl⟩

set_option maxRecDepth 100000 in
theorem load64_1_ct {B : Nat} {w0 : World} {R : List Row} {g : Nat} {a0 a1 a2 : Int} :
    Ct Try.prog 23 #[.pointer (some ⟨g, 1, none⟩)] B w0 (⟨48, 3, (some ⟨g, 0, none⟩), 1, 1, [.int .i64 a0, .int .i64 a1, .int .i64 a2], false⟩ :: R) (fun v R' => v = .int .i64 a1 ∧ R' = ⟨48, 3, (some ⟨g, 0, none⟩), 1, 1, [.int .i64 a0, .int .i64 a1, .int .i64 a2], false⟩ :: R) := by
  refine fn1 Try.func23 rfl rfl rfl ?_
  refine w_seq ?_
  refine w_reg ?_
  refine wr_y rfl (y_assign rfl) ?_
  refine wr_nil ?_
  refine w_seq ?_
  refine w_reg ?_
  refine wr_y rfl (y_move rfl) ?_
  refine wr_y rfl (y_nilCheck rfl) ?_
  refine wr_y rfl (y_fieldAt (off := 0) (m := 1) Try.underlying45 rfl sz2 rfl rfl rfl) ?_
  refine wr_a rfl (a_ext rfl (fun w hw => ⟨_, run_call_load (P := Try.prog) Try.func35 (by kernel_rfl) (by kernel_rfl) (by kernel_rfl) .i64 (by kernel_rfl) (hw.cellAt 0 (r := ⟨48, 3, (some ⟨g, 0, none⟩), 1, 1, [.int .i64 a0, .int .i64 a1, .int .i64 a2], false⟩) (j := 1) rfl rfl rfl), hw⟩)) ?_
  rintro _ _ ⟨rfl, rfl⟩
  refine wr_y rfl (y_assign rfl) ?_
  refine wr_nil ?_
  refine w_ret ?_
  refine ⟨_, rfl, ?_⟩
  exact ⟨rfl, rfl⟩

set_option maxRecDepth 100000 in
theorem load64_2_ct {B : Nat} {w0 : World} {R : List Row} {g : Nat} {a0 a1 a2 : Int} :
    Ct Try.prog 23 #[.pointer (some ⟨g, 2, none⟩)] B w0 (⟨48, 3, (some ⟨g, 0, none⟩), 1, 1, [.int .i64 a0, .int .i64 a1, .int .i64 a2], false⟩ :: R) (fun v R' => v = .int .i64 a2 ∧ R' = ⟨48, 3, (some ⟨g, 0, none⟩), 1, 1, [.int .i64 a0, .int .i64 a1, .int .i64 a2], false⟩ :: R) := by
  refine fn1 Try.func23 rfl rfl rfl ?_
  refine w_seq ?_
  refine w_reg ?_
  refine wr_y rfl (y_assign rfl) ?_
  refine wr_nil ?_
  refine w_seq ?_
  refine w_reg ?_
  refine wr_y rfl (y_move rfl) ?_
  refine wr_y rfl (y_nilCheck rfl) ?_
  refine wr_y rfl (y_fieldAt (off := 0) (m := 2) Try.underlying45 rfl sz2 rfl rfl rfl) ?_
  refine wr_a rfl (a_ext rfl (fun w hw => ⟨_, run_call_load (P := Try.prog) Try.func35 (by kernel_rfl) (by kernel_rfl) (by kernel_rfl) .i64 (by kernel_rfl) (hw.cellAt 0 (r := ⟨48, 3, (some ⟨g, 0, none⟩), 1, 1, [.int .i64 a0, .int .i64 a1, .int .i64 a2], false⟩) (j := 2) rfl rfl rfl), hw⟩)) ?_
  rintro _ _ ⟨rfl, rfl⟩
  refine wr_y rfl (y_assign rfl) ?_
  refine wr_nil ?_
  refine w_ret ?_
  refine ⟨_, rfl, ?_⟩
  exact ⟨rfl, rfl⟩

set_option maxRecDepth 100000 in
theorem crossRunsNil_ct {w : World}  :
    Ct Try.prog 11 #[.pointer none] w.heap.size w [] (fun v R' => v = .agg #[.int .i64 0, .int .i64 0, .int .i64 0]) := by
  refine fnC Try.func11 rfl rfl rfl Try.underlying26 rfl sz26 ?_
  refine w_seq ?_
  refine w_reg ?_
  refine wr_a rfl (a_alloc (sz := 3) zz26 rfl) ?_
  rintro _ _ ⟨g_2, rfl, rfl⟩
  refine wr_rows (R1 := [⟨26, 3, (some ⟨g_2, 0, none⟩), 1, 1, [.int .i64 0, .int .i64 0, .int .i64 0], false⟩]) rfl ?_
  refine wr_nil ?_
  refine w_seq ?_
  refine w_reg ?_
  refine wr_a rfl (a_alloc (sz := 3) zz26 rfl) ?_
  rintro _ _ ⟨g_4, rfl, rfl⟩
  refine wr_rows (R1 := [⟨26, 3, (some ⟨g_4, 0, none⟩), 1, 1, [.int .i64 0, .int .i64 0, .int .i64 0], false⟩, ⟨26, 3, (some ⟨g_2, 0, none⟩), 1, 1, [.int .i64 0, .int .i64 0, .int .i64 0], false⟩]) rfl ?_
  refine wr_nil ?_
  refine w_seq ?_
  refine w_seq ?_
  refine w_reg ?_
  refine wr_y rfl (y_move rfl) ?_
  refine wr_y rfl (y_ptrNe Try.underlying24 rfl rfl) ?_
  refine wr_nil ?_
  refine w_false rfl ?_
  refine w_skip ?_
  refine w_seq ?_
  refine w_reg ?_
  refine wr_y rfl (y_ldInA (vs := [.int .i64 0, .int .i64 0, .int .i64 0]) (rdR 0 (r := ⟨26, 3, (some ⟨g_4, 0, none⟩), 1, 1, [.int .i64 0, .int .i64 0, .int .i64 0], false⟩) rfl) Try.underlying26 rfl sz26 rfl rfl (Nat.le_of_ble_eq_true rfl) rfl) ?_
  refine wr_n (a_storeAll (vs := [.int .i64 0, .int .i64 0, .int .i64 0]) 1 rfl sz26 rfl rfl rfl (by intro v hv; simp at hv; rcases hv with rfl | rfl | rfl <;> rfl) rfl) ?_
  rintro _ _ rfl
  refine wr_rows (R1 := [⟨26, 3, (some ⟨g_4, 0, none⟩), 1, 1, [.int .i64 0, .int .i64 0, .int .i64 0], false⟩, ⟨26, 3, (some ⟨g_2, 0, none⟩), 1, 1, [.int .i64 0, .int .i64 0, .int .i64 0], false⟩]) rfl ?_
  refine wr_nil ?_
  refine w_ret ?_
  refine ⟨_, 1, _, rfl, rfl, rfl, rfl, rfl, rfl, rfl, [], fun _ h => h.sel [] (by decide) rfl, ?_⟩
  rfl

set_option maxRecDepth 100000 in
theorem crossRuns_ct {B : Nat} {w0 : World} {R : List Row} {g : Nat} {a0 a1 a2 : Int} :
    Ct Try.prog 11 #[.pointer (some ⟨g, 0, none⟩)] B w0 (⟨48, 3, (some ⟨g, 0, none⟩), 1, 1, [.int .i64 a0, .int .i64 a1, .int .i64 a2], false⟩ :: R) (fun v R' => v = .agg #[.int .i64 a0, .int .i64 a1, .int .i64 a2] ∧ R' = ⟨48, 3, (some ⟨g, 0, none⟩), 1, 1, [.int .i64 a0, .int .i64 a1, .int .i64 a2], false⟩ :: R) := by
  refine fnC Try.func11 rfl rfl rfl Try.underlying26 rfl sz26 ?_
  refine w_seq ?_
  refine w_reg ?_
  refine wr_a rfl (a_alloc (sz := 3) zz26 rfl) ?_
  rintro _ _ ⟨g_1, rfl, rfl⟩
  refine wr_rows (R1 := (⟨26, 3, (some ⟨g_1, 0, none⟩), 1, 1, [.int .i64 0, .int .i64 0, .int .i64 0], false⟩ :: ⟨48, 3, (some ⟨g, 0, none⟩), 1, 1, [.int .i64 a0, .int .i64 a1, .int .i64 a2], false⟩ :: R)) rfl ?_
  refine wr_nil ?_
  refine w_seq ?_
  refine w_reg ?_
  refine wr_a rfl (a_alloc (sz := 3) zz26 rfl) ?_
  rintro _ _ ⟨g_2, rfl, rfl⟩
  refine wr_rows (R1 := (⟨26, 3, (some ⟨g_2, 0, none⟩), 1, 1, [.int .i64 0, .int .i64 0, .int .i64 0], false⟩ :: ⟨26, 3, (some ⟨g_1, 0, none⟩), 1, 1, [.int .i64 0, .int .i64 0, .int .i64 0], false⟩ :: ⟨48, 3, (some ⟨g, 0, none⟩), 1, 1, [.int .i64 a0, .int .i64 a1, .int .i64 a2], false⟩ :: R)) rfl ?_
  refine wr_nil ?_
  refine w_seq ?_
  refine w_seq ?_
  refine w_reg ?_
  refine wr_y rfl (y_move rfl) ?_
  refine wr_y rfl (y_ptrNe Try.underlying24 rfl rfl) ?_
  refine wr_nil ?_
  refine w_true rfl ?_
  refine w_seq ?_
  refine w_reg ?_
  refine wr_y rfl (y_move rfl) ?_
  refine wr_nil ?_
  refine w_block ?_
  refine w_rounds 4 ?_
  refine w_round ?_
  refine w_seq ?_
  refine w_reg ?_
  refine wr_y rfl (Yl.t (y_lt rfl rfl) (by decide)) ?_
  refine wr_nil ?_
  refine w_seq ?_
  refine w_true rfl ?_
  refine w_skip ?_
  refine w_seq ?_
  refine w_block ?_
  refine w_seq ?_
  refine w_reg ?_
  refine wr_y rfl (y_move rfl) ?_
  refine wr_y rfl (y_assign rfl) ?_
  refine wr_nil ?_
  refine w_reg ?_
  refine wr_y rfl (y_move rfl) ?_
  refine wr_y rfl (y_move rfl) ?_
  refine wr_y rfl (y_move rfl) ?_
  refine wr_y rfl (y_nilCheck rfl) ?_
  refine wr_y rfl (y_fieldAt (off := 0) (m := 0) Try.underlying48 rfl sz46 rfl rfl rfl) ?_
  refine wr_y rfl (y_indexIn (q := 0) (rdR 2 (r := ⟨48, 3, (some ⟨g, 0, none⟩), 1, 1, [.int .i64 a0, .int .i64 a1, .int .i64 a2], false⟩) rfl) Try.underlying46 sz45 rfl rfl (Nat.le_of_ble_eq_true rfl) (by decide) (by decide) rfl) ?_
  refine wr_a rfl (a_callF en23 rfl (Ct.at 2 rfl (load64_0_ct))) ?_
  rintro _ _ ⟨rfl, rfl⟩
  refine wr_rows (R1 := (⟨26, 3, (some ⟨g_2, 0, none⟩), 1, 1, [.int .i64 0, .int .i64 0, .int .i64 0], false⟩ :: ⟨26, 3, (some ⟨g_1, 0, none⟩), 1, 1, [.int .i64 0, .int .i64 0, .int .i64 0], false⟩ :: ⟨48, 3, (some ⟨g, 0, none⟩), 1, 1, [.int .i64 a0, .int .i64 a1, .int .i64 a2], false⟩ :: R)) rfl ?_
  refine wr_y rfl (y_indexIn (q := 0) (rdR 0 (r := ⟨26, 3, (some ⟨g_2, 0, none⟩), 1, 1, [.int .i64 0, .int .i64 0, .int .i64 0], false⟩) rfl) Try.underlying26 sz3 rfl rfl (Nat.le_of_ble_eq_true rfl) (by decide) (by decide) rfl) ?_
  refine wr_n (a_storeAt 0 rfl rfl rfl sz3 rfl rfl rfl rfl (Nat.le_of_ble_eq_true rfl)) ?_
  rintro _ _ rfl
  refine wr_rows (R1 := (⟨26, 3, (some ⟨g_2, 0, none⟩), 1, 1, [.int .i64 a0, .int .i64 0, .int .i64 0], false⟩ :: ⟨26, 3, (some ⟨g_1, 0, none⟩), 1, 1, [.int .i64 0, .int .i64 0, .int .i64 0], false⟩ :: ⟨48, 3, (some ⟨g, 0, none⟩), 1, 1, [.int .i64 a0, .int .i64 a1, .int .i64 a2], false⟩ :: R)) rfl ?_
  refine wr_nil ?_
  refine w_reg ?_
  refine wr_y rfl (Yl.is (y_addI rfl rfl (by omega)) rfl) ?_
  refine wr_y rfl (y_move rfl) ?_
  refine wr_nil ?_
  refine w_round ?_
  refine w_seq ?_
  refine w_reg ?_
  refine wr_y rfl (Yl.t (y_lt rfl rfl) (by decide)) ?_
  refine wr_nil ?_
  refine w_seq ?_
  refine w_true rfl ?_
  refine w_skip ?_
  refine w_seq ?_
  refine w_block ?_
  refine w_seq ?_
  refine w_reg ?_
  refine wr_y rfl (y_move rfl) ?_
  refine wr_y rfl (y_assign rfl) ?_
  refine wr_nil ?_
  refine w_reg ?_
  refine wr_y rfl (y_move rfl) ?_
  refine wr_y rfl (y_move rfl) ?_
  refine wr_y rfl (y_move rfl) ?_
  refine wr_y rfl (y_nilCheck rfl) ?_
  refine wr_y rfl (y_fieldAt (off := 0) (m := 0) Try.underlying48 rfl sz46 rfl rfl rfl) ?_
  refine wr_y rfl (y_indexIn (q := 1) (rdR 2 (r := ⟨48, 3, (some ⟨g, 0, none⟩), 1, 1, [.int .i64 a0, .int .i64 a1, .int .i64 a2], false⟩) rfl) Try.underlying46 sz45 rfl rfl (Nat.le_of_ble_eq_true rfl) (by decide) (by decide) rfl) ?_
  refine wr_a rfl (a_callF en23 rfl (Ct.at 2 rfl (load64_1_ct))) ?_
  rintro _ _ ⟨rfl, rfl⟩
  refine wr_rows (R1 := (⟨26, 3, (some ⟨g_2, 0, none⟩), 1, 1, [.int .i64 a0, .int .i64 0, .int .i64 0], false⟩ :: ⟨26, 3, (some ⟨g_1, 0, none⟩), 1, 1, [.int .i64 0, .int .i64 0, .int .i64 0], false⟩ :: ⟨48, 3, (some ⟨g, 0, none⟩), 1, 1, [.int .i64 a0, .int .i64 a1, .int .i64 a2], false⟩ :: R)) rfl ?_
  refine wr_y rfl (y_indexIn (q := 1) (rdR 0 (r := ⟨26, 3, (some ⟨g_2, 0, none⟩), 1, 1, [.int .i64 a0, .int .i64 0, .int .i64 0], false⟩) rfl) Try.underlying26 sz3 rfl rfl (Nat.le_of_ble_eq_true rfl) (by decide) (by decide) rfl) ?_
  refine wr_n (a_storeAt 0 rfl rfl rfl sz3 rfl rfl rfl rfl (Nat.le_of_ble_eq_true rfl)) ?_
  rintro _ _ rfl
  refine wr_rows (R1 := (⟨26, 3, (some ⟨g_2, 0, none⟩), 1, 1, [.int .i64 a0, .int .i64 a1, .int .i64 0], false⟩ :: ⟨26, 3, (some ⟨g_1, 0, none⟩), 1, 1, [.int .i64 0, .int .i64 0, .int .i64 0], false⟩ :: ⟨48, 3, (some ⟨g, 0, none⟩), 1, 1, [.int .i64 a0, .int .i64 a1, .int .i64 a2], false⟩ :: R)) rfl ?_
  refine wr_nil ?_
  refine w_reg ?_
  refine wr_y rfl (Yl.is (y_addI rfl rfl (by omega)) rfl) ?_
  refine wr_y rfl (y_move rfl) ?_
  refine wr_nil ?_
  refine w_round ?_
  refine w_seq ?_
  refine w_reg ?_
  refine wr_y rfl (Yl.t (y_lt rfl rfl) (by decide)) ?_
  refine wr_nil ?_
  refine w_seq ?_
  refine w_true rfl ?_
  refine w_skip ?_
  refine w_seq ?_
  refine w_block ?_
  refine w_seq ?_
  refine w_reg ?_
  refine wr_y rfl (y_move rfl) ?_
  refine wr_y rfl (y_assign rfl) ?_
  refine wr_nil ?_
  refine w_reg ?_
  refine wr_y rfl (y_move rfl) ?_
  refine wr_y rfl (y_move rfl) ?_
  refine wr_y rfl (y_move rfl) ?_
  refine wr_y rfl (y_nilCheck rfl) ?_
  refine wr_y rfl (y_fieldAt (off := 0) (m := 0) Try.underlying48 rfl sz46 rfl rfl rfl) ?_
  refine wr_y rfl (y_indexIn (q := 2) (rdR 2 (r := ⟨48, 3, (some ⟨g, 0, none⟩), 1, 1, [.int .i64 a0, .int .i64 a1, .int .i64 a2], false⟩) rfl) Try.underlying46 sz45 rfl rfl (Nat.le_of_ble_eq_true rfl) (by decide) (by decide) rfl) ?_
  refine wr_a rfl (a_callF en23 rfl (Ct.at 2 rfl (load64_2_ct))) ?_
  rintro _ _ ⟨rfl, rfl⟩
  refine wr_rows (R1 := (⟨26, 3, (some ⟨g_2, 0, none⟩), 1, 1, [.int .i64 a0, .int .i64 a1, .int .i64 0], false⟩ :: ⟨26, 3, (some ⟨g_1, 0, none⟩), 1, 1, [.int .i64 0, .int .i64 0, .int .i64 0], false⟩ :: ⟨48, 3, (some ⟨g, 0, none⟩), 1, 1, [.int .i64 a0, .int .i64 a1, .int .i64 a2], false⟩ :: R)) rfl ?_
  refine wr_y rfl (y_indexIn (q := 2) (rdR 0 (r := ⟨26, 3, (some ⟨g_2, 0, none⟩), 1, 1, [.int .i64 a0, .int .i64 a1, .int .i64 0], false⟩) rfl) Try.underlying26 sz3 rfl rfl (Nat.le_of_ble_eq_true rfl) (by decide) (by decide) rfl) ?_
  refine wr_n (a_storeAt 0 rfl rfl rfl sz3 rfl rfl rfl rfl (Nat.le_of_ble_eq_true rfl)) ?_
  rintro _ _ rfl
  refine wr_rows (R1 := (⟨26, 3, (some ⟨g_2, 0, none⟩), 1, 1, [.int .i64 a0, .int .i64 a1, .int .i64 a2], false⟩ :: ⟨26, 3, (some ⟨g_1, 0, none⟩), 1, 1, [.int .i64 0, .int .i64 0, .int .i64 0], false⟩ :: ⟨48, 3, (some ⟨g, 0, none⟩), 1, 1, [.int .i64 a0, .int .i64 a1, .int .i64 a2], false⟩ :: R)) rfl ?_
  refine wr_nil ?_
  refine w_reg ?_
  refine wr_y rfl (Yl.is (y_addI rfl rfl (by omega)) rfl) ?_
  refine wr_y rfl (y_move rfl) ?_
  refine wr_nil ?_
  refine w_round ?_
  refine w_seq ?_
  refine w_reg ?_
  refine wr_y rfl (Yl.f (y_lt rfl rfl) (by decide)) ?_
  refine wr_nil ?_
  refine w_seq ?_
  refine w_false rfl ?_
  refine w_exit ?_
  refine w_seq ?_
  refine w_reg ?_
  refine wr_y rfl (y_ldInA (vs := [.int .i64 a0, .int .i64 a1, .int .i64 a2]) (rdR 0 (r := ⟨26, 3, (some ⟨g_2, 0, none⟩), 1, 1, [.int .i64 a0, .int .i64 a1, .int .i64 a2], false⟩) rfl) Try.underlying26 rfl sz26 rfl rfl (Nat.le_of_ble_eq_true rfl) rfl) ?_
  refine wr_n (a_storeAll (vs := [.int .i64 a0, .int .i64 a1, .int .i64 a2]) 1 rfl sz26 rfl rfl rfl (by intro v hv; simp at hv; rcases hv with rfl | rfl | rfl <;> rfl) rfl) ?_
  rintro _ _ rfl
  refine wr_rows (R1 := (⟨26, 3, (some ⟨g_2, 0, none⟩), 1, 1, [.int .i64 a0, .int .i64 a1, .int .i64 a2], false⟩ :: ⟨26, 3, (some ⟨g_1, 0, none⟩), 1, 1, [.int .i64 a0, .int .i64 a1, .int .i64 a2], false⟩ :: ⟨48, 3, (some ⟨g, 0, none⟩), 1, 1, [.int .i64 a0, .int .i64 a1, .int .i64 a2], false⟩ :: R)) rfl ?_
  refine wr_nil ?_
  refine w_ret ?_
  refine ⟨_, 1, _, rfl, rfl, rfl, rfl, rfl, rfl, rfl, (⟨48, 3, (some ⟨g, 0, none⟩), 1, 1, [.int .i64 a0, .int .i64 a1, .int .i64 a2], false⟩ :: R), fun _ h => h.selR (F := [_, _, _]) (F' := [_]) [2] (by decide) rfl, ?_⟩
  exact ⟨rfl, rfl⟩

set_option maxRecDepth 100000 in
theorem crossSortNil_ct {w : World} {so : Int} {A_u : Option Addr} {n_u c_u : Nat} {u : List Int} (h_u : Rd w A_u n_u c_u 1 (ints .u8 u)) :
    Ct Try.prog 8 #[.pointer none, .int .i64 so, .slice A_u n_u c_u] w.heap.size w [] (fun v R' => v = .tuple #[.slice none 0 0, .int .i64 1]) := by
  obtain rfl := h_u.lenI
  refine fn2 Try.func8 rfl rfl rfl ?_
  have m_u := h_u.max
  refine w_seq ?_
  refine w_reg ?_
  refine wr_y rfl (y_assign rfl) ?_
  refine wr_y rfl (y_assign rfl) ?_
  refine wr_nil ?_
  refine w_seq ?_
  refine w_seq ?_
  refine w_reg ?_
  refine wr_y rfl (y_move rfl) ?_
  refine wr_y rfl (y_ptrEq Try.underlying24 rfl rfl) ?_
  refine wr_y rfl (y_move rfl) ?_
  refine wr_no rfl rfl rfl rfl ?_
  refine wr_no rfl rfl rfl rfl ?_
  refine wr_y rfl (y_pickT rfl rfl) ?_
  refine wr_y rfl (y_move rfl) ?_
  refine wr_no rfl rfl rfl rfl ?_
  refine wr_no rfl rfl rfl rfl ?_
  refine wr_y rfl (y_pickT rfl rfl) ?_
  refine wr_nil ?_
  refine w_true rfl ?_
  refine w_seq ?_
  refine w_reg ?_
  refine wr_y rfl (y_assign rfl) ?_
  refine wr_y rfl (y_assign rfl) ?_
  refine wr_nil ?_
  refine w_ret ?_
  refine ⟨_, _, rfl, rfl, ?_⟩
  rfl

set_option maxRecDepth 100000 in
theorem crossSortBad_ct {B : Nat} {w0 : World} {R : List Row} {g : Nat} {a0 a1 a2 : Int} {A_u : Option Addr} {n_u c_u : Nat} {u : List Int} {so : Int} (h_u : RdC B w0 R A_u n_u c_u 1 (ints .u8 u)) (hn_u : n_u = u.length) (hb : so < 0 ∨ 2 < so) :
    Ct Try.prog 8 #[.pointer (some ⟨g, 0, none⟩), .int .i64 so, .slice A_u n_u c_u] B w0 (⟨48, 3, (some ⟨g, 0, none⟩), 1, 1, [.int .i64 a0, .int .i64 a1, .int .i64 a2], false⟩ :: R) (fun v R' => v = .tuple #[.slice none 0 0, .int .i64 1] ∧ R' = ⟨48, 3, (some ⟨g, 0, none⟩), 1, 1, [.int .i64 a0, .int .i64 a1, .int .i64 a2], false⟩ :: R) := by
  subst hn_u
  refine fn2 Try.func8 rfl rfl rfl ?_
  refine w_seq ?_
  refine w_reg ?_
  refine wr_y rfl (y_assign rfl) ?_
  refine wr_y rfl (y_assign rfl) ?_
  refine wr_nil ?_
  refine w_seq ?_
  refine w_seq ?_
  refine w_reg ?_
  refine wr_y rfl (y_move rfl) ?_
  refine wr_y rfl (y_ptrEq Try.underlying24 rfl rfl) ?_
  refine wr_y rfl (y_move rfl) ?_
  refine wr_yes rfl rfl ?_
  refine wr_y rfl (y_move rfl) ?_
  refine wr_yes rfl rfl ?_
  refine wr_y rfl (y_lt rfl rfl) ?_
  refine wr_y rfl (y_pickF rfl rfl) ?_
  refine wr_y rfl (y_move rfl) ?_
  refine wr_mid 3 [(0, .pointer (some ⟨g, 0, none⟩)), (1, .int .i64 so), (2, .slice A_u u.length c_u), (20, .bool (decide ((so < 0) ∨ (3 ≤ so))))] (⟨48, 3, (some ⟨g, 0, none⟩), 1, 1, [.int .i64 a0, .int .i64 a1, .int .i64 a2], false⟩ :: R) ?_ ?_
  ·
    refine wr_case 17 rfl (fun hc1 => ?_) (fun hc1 => ?_)
    ·
      refine wr_no rfl rfl rfl rfl ?_
      refine wr_no rfl rfl rfl rfl ?_
      refine wr_y rfl (y_pickT rfl rfl) ?_
      refine wr_nil ?_
      exact ⟨(Sub.cons rfl (Sub.cons rfl (Sub.cons rfl (Sub.to rfl (mb_t (by first | omega | exact ⟨fun h => ⟨(by assumption), h⟩, fun h => h.2⟩ | exact .inl (by assumption) | exact ⟨.inr, fun h => h.resolve_left (by assumption)⟩ | exact ⟨fun h => h.resolve_left (by assumption), .inr⟩ | simp [*])) Sub.nil)))), fun _ h => h⟩
    ·
      refine wr_yes rfl rfl ?_
      refine wr_y rfl (y_move rfl) ?_
      refine wr_yes rfl rfl ?_
      refine wr_y rfl (y_ge rfl rfl) ?_
      refine wr_y rfl (y_pickF rfl rfl) ?_
      refine wr_nil ?_
      exact ⟨(Sub.cons rfl (Sub.cons rfl (Sub.cons rfl (Sub.to rfl (mb (by first | omega | exact ⟨fun h => ⟨(by assumption), h⟩, fun h => h.2⟩ | exact .inl (by assumption) | exact ⟨.inr, fun h => h.resolve_left (by assumption)⟩ | exact ⟨fun h => h.resolve_left (by assumption), .inr⟩ | simp [*])) Sub.nil)))), fun _ h => h⟩
  refine wr_setT 20 rfl (by omega) ?_
  refine wr_nil ?_
  refine w_true rfl ?_
  refine w_seq ?_
  refine w_reg ?_
  refine wr_y rfl (y_assign rfl) ?_
  refine wr_y rfl (y_assign rfl) ?_
  refine wr_nil ?_
  refine w_ret ?_
  refine ⟨_, _, rfl, rfl, ?_⟩
  exact ⟨rfl, rfl⟩

set_option maxRecDepth 100000 in
theorem crossSortLong0_ct {B : Nat} {w0 : World} {R : List Row} {g : Nat} {a0 a1 a2 : Int} {A_u : Option Addr} {n_u c_u : Nat} {u : List Int} (h_u : RdC B w0 R A_u n_u c_u 1 (ints .u8 u)) (hn_u : n_u = u.length) (hN : 100000 < u.length) :
    Ct Try.prog 8 #[.pointer (some ⟨g, 0, none⟩), .int .i64 0, .slice A_u n_u c_u] B w0 (⟨48, 3, (some ⟨g, 0, none⟩), 1, 1, [.int .i64 a0, .int .i64 a1, .int .i64 a2], false⟩ :: R) (fun v R' => v = .tuple #[.slice none 0 0, .int .i64 2] ∧ R' = ⟨48, 3, (some ⟨g, 0, none⟩), 1, 1, [.int .i64 a0, .int .i64 a1, .int .i64 a2], false⟩ :: R) := by
  subst hn_u
  refine fn2 Try.func8 rfl rfl rfl ?_
  refine w_seq ?_
  refine w_reg ?_
  refine wr_y rfl (y_assign rfl) ?_
  refine wr_y rfl (y_assign rfl) ?_
  refine wr_nil ?_
  refine w_seq ?_
  refine w_seq ?_
  refine w_reg ?_
  refine wr_y rfl (y_move rfl) ?_
  refine wr_y rfl (y_ptrEq Try.underlying24 rfl rfl) ?_
  refine wr_y rfl (y_move rfl) ?_
  refine wr_yes rfl rfl ?_
  refine wr_y rfl (y_move rfl) ?_
  refine wr_yes rfl rfl ?_
  refine wr_y rfl (Yl.f (y_lt rfl rfl) (by decide)) ?_
  refine wr_y rfl (y_pickF rfl rfl) ?_
  refine wr_y rfl (y_move rfl) ?_
  refine wr_yes rfl rfl ?_
  refine wr_y rfl (y_move rfl) ?_
  refine wr_yes rfl rfl ?_
  refine wr_y rfl (Yl.f (y_ge rfl rfl) (by decide)) ?_
  refine wr_y rfl (y_pickF rfl rfl) ?_
  refine wr_nil ?_
  refine w_false rfl ?_
  refine w_skip ?_
  refine w_seq ?_
  refine w_reg ?_
  refine wr_y rfl (y_build (v := .agg #[.func (.func 17) #[] #[], .func (.func 18) #[] #[], .func (.func 19) #[] #[]]) rfl (fun w => by kernel_rfl)) ?_
  refine wr_y rfl (y_move rfl) ?_
  refine wr_y rfl (y_ix (v := .func (.func 17) #[] #[]) rfl rfl (fun w => by kernel_rfl)) ?_
  refine wr_y rfl (y_assign rfl) ?_
  refine wr_nil ?_
  refine w_seq ?_
  refine w_reg ?_
  refine wr_y rfl (y_move rfl) ?_
  refine wr_y rfl (y_move rfl) ?_
  refine wr_a rfl (a_call en17 rfl rfl (Ct.quiet (fun w hw => sbytesLong_ct ((RdC.right h_u [_]) w hw) hN))) ?_
  rintro _ _ ⟨rfl, rfl⟩
  refine wr_y rfl (y_move rfl) ?_
  refine wr_y rfl (y_extract rfl rfl) ?_
  refine wr_y rfl (y_extract rfl rfl) ?_
  refine wr_y rfl (y_assign rfl) ?_
  refine wr_y rfl (y_assign rfl) ?_
  refine wr_nil ?_
  refine w_seq ?_
  refine w_seq ?_
  refine w_reg ?_
  refine wr_y rfl (y_move rfl) ?_
  refine wr_y rfl (Yl.f (y_eq rfl rfl) (by decide)) ?_
  refine wr_nil ?_
  refine w_false rfl ?_
  refine w_skip ?_
  refine w_seq ?_
  refine w_reg ?_
  refine wr_y rfl (y_move rfl) ?_
  refine wr_y rfl (y_move rfl) ?_
  refine wr_y rfl (y_assign rfl) ?_
  refine wr_y rfl (y_assign rfl) ?_
  refine wr_nil ?_
  refine w_ret ?_
  refine ⟨_, _, rfl, rfl, ?_⟩
  exact ⟨rfl, rfl⟩

set_option maxRecDepth 100000 in
theorem crossSortLong1_ct {B : Nat} {w0 : World} {R : List Row} {g : Nat} {a0 a1 a2 : Int} {A_u : Option Addr} {n_u c_u : Nat} {u : List Int} (h_u : RdC B w0 R A_u n_u c_u 1 (ints .u8 u)) (hn_u : n_u = u.length) (hN : 100000 < u.length) :
    Ct Try.prog 8 #[.pointer (some ⟨g, 0, none⟩), .int .i64 1, .slice A_u n_u c_u] B w0 (⟨48, 3, (some ⟨g, 0, none⟩), 1, 1, [.int .i64 a0, .int .i64 a1, .int .i64 a2], false⟩ :: R) (fun v R' => v = .tuple #[.slice none 0 0, .int .i64 2] ∧ R' = ⟨48, 3, (some ⟨g, 0, none⟩), 1, 1, [.int .i64 a0, .int .i64 a1, .int .i64 a2], false⟩ :: R) := by
  subst hn_u
  refine fn2 Try.func8 rfl rfl rfl ?_
  refine w_seq ?_
  refine w_reg ?_
  refine wr_y rfl (y_assign rfl) ?_
  refine wr_y rfl (y_assign rfl) ?_
  refine wr_nil ?_
  refine w_seq ?_
  refine w_seq ?_
  refine w_reg ?_
  refine wr_y rfl (y_move rfl) ?_
  refine wr_y rfl (y_ptrEq Try.underlying24 rfl rfl) ?_
  refine wr_y rfl (y_move rfl) ?_
  refine wr_yes rfl rfl ?_
  refine wr_y rfl (y_move rfl) ?_
  refine wr_yes rfl rfl ?_
  refine wr_y rfl (Yl.f (y_lt rfl rfl) (by decide)) ?_
  refine wr_y rfl (y_pickF rfl rfl) ?_
  refine wr_y rfl (y_move rfl) ?_
  refine wr_yes rfl rfl ?_
  refine wr_y rfl (y_move rfl) ?_
  refine wr_yes rfl rfl ?_
  refine wr_y rfl (Yl.f (y_ge rfl rfl) (by decide)) ?_
  refine wr_y rfl (y_pickF rfl rfl) ?_
  refine wr_nil ?_
  refine w_false rfl ?_
  refine w_skip ?_
  refine w_seq ?_
  refine w_reg ?_
  refine wr_y rfl (y_build (v := .agg #[.func (.func 17) #[] #[], .func (.func 18) #[] #[], .func (.func 19) #[] #[]]) rfl (fun w => by kernel_rfl)) ?_
  refine wr_y rfl (y_move rfl) ?_
  refine wr_y rfl (y_ix (v := .func (.func 18) #[] #[]) rfl rfl (fun w => by kernel_rfl)) ?_
  refine wr_y rfl (y_assign rfl) ?_
  refine wr_nil ?_
  refine w_seq ?_
  refine w_reg ?_
  refine wr_y rfl (y_move rfl) ?_
  refine wr_y rfl (y_move rfl) ?_
  refine wr_a rfl (a_call en18 rfl rfl (Ct.quiet (fun w hw => kbytesLong_ct ((RdC.right h_u [_]) w hw) hN))) ?_
  rintro _ _ ⟨rfl, rfl⟩
  refine wr_y rfl (y_move rfl) ?_
  refine wr_y rfl (y_extract rfl rfl) ?_
  refine wr_y rfl (y_extract rfl rfl) ?_
  refine wr_y rfl (y_assign rfl) ?_
  refine wr_y rfl (y_assign rfl) ?_
  refine wr_nil ?_
  refine w_seq ?_
  refine w_seq ?_
  refine w_reg ?_
  refine wr_y rfl (y_move rfl) ?_
  refine wr_y rfl (Yl.f (y_eq rfl rfl) (by decide)) ?_
  refine wr_nil ?_
  refine w_false rfl ?_
  refine w_skip ?_
  refine w_seq ?_
  refine w_reg ?_
  refine wr_y rfl (y_move rfl) ?_
  refine wr_y rfl (y_move rfl) ?_
  refine wr_y rfl (y_assign rfl) ?_
  refine wr_y rfl (y_assign rfl) ?_
  refine wr_nil ?_
  refine w_ret ?_
  refine ⟨_, _, rfl, rfl, ?_⟩
  exact ⟨rfl, rfl⟩

set_option maxRecDepth 100000 in
theorem crossSortLong2_ct {B : Nat} {w0 : World} {R : List Row} {g : Nat} {a0 a1 a2 : Int} {A_u : Option Addr} {n_u c_u : Nat} {u : List Int} (h_u : RdC B w0 R A_u n_u c_u 1 (ints .u8 u)) (hn_u : n_u = u.length) (hN : 100000 < u.length) :
    Ct Try.prog 8 #[.pointer (some ⟨g, 0, none⟩), .int .i64 2, .slice A_u n_u c_u] B w0 (⟨48, 3, (some ⟨g, 0, none⟩), 1, 1, [.int .i64 a0, .int .i64 a1, .int .i64 a2], false⟩ :: R) (fun v R' => v = .tuple #[.slice none 0 0, .int .i64 2] ∧ R' = ⟨48, 3, (some ⟨g, 0, none⟩), 1, 1, [.int .i64 a0, .int .i64 a1, .int .i64 a2], false⟩ :: R) := by
  subst hn_u
  refine fn2 Try.func8 rfl rfl rfl ?_
  refine w_seq ?_
  refine w_reg ?_
  refine wr_y rfl (y_assign rfl) ?_
  refine wr_y rfl (y_assign rfl) ?_
  refine wr_nil ?_
  refine w_seq ?_
  refine w_seq ?_
  refine w_reg ?_
  refine wr_y rfl (y_move rfl) ?_
  refine wr_y rfl (y_ptrEq Try.underlying24 rfl rfl) ?_
  refine wr_y rfl (y_move rfl) ?_
  refine wr_yes rfl rfl ?_
  refine wr_y rfl (y_move rfl) ?_
  refine wr_yes rfl rfl ?_
  refine wr_y rfl (Yl.f (y_lt rfl rfl) (by decide)) ?_
  refine wr_y rfl (y_pickF rfl rfl) ?_
  refine wr_y rfl (y_move rfl) ?_
  refine wr_yes rfl rfl ?_
  refine wr_y rfl (y_move rfl) ?_
  refine wr_yes rfl rfl ?_
  refine wr_y rfl (Yl.f (y_ge rfl rfl) (by decide)) ?_
  refine wr_y rfl (y_pickF rfl rfl) ?_
  refine wr_nil ?_
  refine w_false rfl ?_
  refine w_skip ?_
  refine w_seq ?_
  refine w_reg ?_
  refine wr_y rfl (y_build (v := .agg #[.func (.func 17) #[] #[], .func (.func 18) #[] #[], .func (.func 19) #[] #[]]) rfl (fun w => by kernel_rfl)) ?_
  refine wr_y rfl (y_move rfl) ?_
  refine wr_y rfl (y_ix (v := .func (.func 19) #[] #[]) rfl rfl (fun w => by kernel_rfl)) ?_
  refine wr_y rfl (y_assign rfl) ?_
  refine wr_nil ?_
  refine w_seq ?_
  refine w_reg ?_
  refine wr_y rfl (y_move rfl) ?_
  refine wr_y rfl (y_move rfl) ?_
  refine wr_a rfl (a_call en19 rfl rfl (Ct.quiet (fun w hw => bytes15long_ct ((RdC.right h_u [_]) w hw) hN))) ?_
  rintro _ _ ⟨rfl, rfl⟩
  refine wr_y rfl (y_move rfl) ?_
  refine wr_y rfl (y_extract rfl rfl) ?_
  refine wr_y rfl (y_extract rfl rfl) ?_
  refine wr_y rfl (y_assign rfl) ?_
  refine wr_y rfl (y_assign rfl) ?_
  refine wr_nil ?_
  refine w_seq ?_
  refine w_seq ?_
  refine w_reg ?_
  refine wr_y rfl (y_move rfl) ?_
  refine wr_y rfl (Yl.f (y_eq rfl rfl) (by decide)) ?_
  refine wr_nil ?_
  refine w_false rfl ?_
  refine w_skip ?_
  refine w_seq ?_
  refine w_reg ?_
  refine wr_y rfl (y_move rfl) ?_
  refine wr_y rfl (y_move rfl) ?_
  refine wr_y rfl (y_assign rfl) ?_
  refine wr_y rfl (y_assign rfl) ?_
  refine wr_nil ?_
  refine w_ret ?_
  refine ⟨_, _, rfl, rfl, ?_⟩
  exact ⟨rfl, rfl⟩

theorem crossSortLong_ct {B : Nat} {w0 : World} {R : List Row} {g : Nat} {a0 a1 a2 : Int} {A_u : Option Addr} {n_u c_u : Nat} {u : List Int} {so : Int} (h_u : RdC B w0 R A_u n_u c_u 1 (ints .u8 u)) (hn_u : n_u = u.length) (hN : 100000 < u.length) (hs : 0 ≤ so ∧ so ≤ 2) : Ct Try.prog 8 #[.pointer (some ⟨g, 0, none⟩), .int .i64 so, .slice A_u n_u c_u] B w0 (⟨48, 3, (some ⟨g, 0, none⟩), 1, 1, [.int .i64 a0, .int .i64 a1, .int .i64 a2], false⟩ :: R) (fun v R' => v = .tuple #[.slice none 0 0, .int .i64 2] ∧ R' = ⟨48, 3, (some ⟨g, 0, none⟩), 1, 1, [.int .i64 a0, .int .i64 a1, .int .i64 a2], false⟩ :: R) := by
  rcases (by omega : so = 0 ∨ so = 1 ∨ so = 2) with rfl | rfl | rfl
  · exact crossSortLong0_ct h_u hn_u hN
  · exact crossSortLong1_ct h_u hn_u hN
  · exact crossSortLong2_ct h_u hn_u hN
theorem crossSortAny_ct {B : Nat} {w0 : World} {R : List Row} {g : Nat} {a0 a1 a2 : Int} {A_u : Option Addr} {n_u c_u : Nat} {u : List Int} {so : Int} (h_u : RdC B w0 R A_u n_u c_u 1 (ints .u8 u)) (hn_u : n_u = u.length) (bh_u : ByteL u) (hN : u.length ≤ 100000) (ha : (0 ≤ a0 ∧ a0 < 1000000) ∧ (0 ≤ a1 ∧ a1 < 1000000) ∧ (0 ≤ a2 ∧ a2 < 1000000)) :
    Ct Try.prog 8 #[.pointer (some ⟨g, 0, none⟩), .int .i64 so, .slice A_u n_u c_u] B w0 (⟨48, 3, (some ⟨g, 0, none⟩), 1, 1, [.int .i64 a0, .int .i64 a1, .int .i64 a2], false⟩ :: R) (fun v R' => ∃ (b : List Int) (A : Option Addr) (c : Nat) (e d0 d1 d2 : Int), v = .tuple #[.slice A b.length c, .int .i64 e] ∧
      (((so < 0 ∨ 2 < so) ∧ e = 1 ∧ b = [] ∧ d0 = a0 ∧ d1 = a1 ∧ d2 = a2) ∨ (¬ (so < 0 ∨ 2 < so) ∧ e = 0 ∧ b.Perm (iota u.length) ∧ b.Pairwise (ordE u) ∧ [d0, d1, d2] = upd [a0, a1, a2] so (rd [a0, a1, a2] so + 1) ∧ (d0 ≤ a0 + 1 ∧ 0 ≤ d0) ∧ (d1 ≤ a1 + 1 ∧ 0 ≤ d1) ∧ (d2 ≤ a2 + 1 ∧ 0 ≤ d2))) ∧ R' = ⟨3, 1, A, b.length, c, ints .i64 b, false⟩ :: ⟨48, 3, (some ⟨g, 0, none⟩), 1, 1, [.int .i64 d0, .int .i64 d1, .int .i64 d2], false⟩ :: R) := by
  by_cases hb : so < 0 ∨ 2 < so
  · intro w hw
    refine (crossSortBad_ct (u := u) h_u hn_u hb w hw).mono ?_
    rintro e w' ⟨v, R', he, hh, hv, hr⟩
    subst hr
    exact ⟨v, _, he, hh.nil 3 1, [], none, 0, 1, a0, a1, a2, hv, .inl ⟨hb, rfl, rfl, rfl, rfl, rfl⟩, rfl⟩
  · have hlen : ∀ b : List Int, b.Perm (iota u.length) → u.length = b.length := fun b h => by rw [h.length_eq, iota_len]
    rcases (by omega : so = 0 ∨ so = 1 ∨ so = 2) with rfl | rfl | rfl
    · refine (crossSort0_ct h_u hn_u bh_u hN ha.1).mono ?_
      rintro v R' ⟨b, A, c, hv, hp, hs, hr⟩
      rw [hlen b hp] at hv hr
      exact ⟨b, A, c, 0, a0 + 1, a1, a2, hv, .inr ⟨hb, rfl, hp, hs, rfl, by omega, by omega, by omega⟩, hr⟩
    · refine (crossSort1_ct h_u hn_u bh_u hN ha.2.1).mono ?_
      rintro v R' ⟨b, A, c, hv, hp, hs, hr⟩
      rw [hlen b hp] at hv hr
      exact ⟨b, A, c, 0, a0, a1 + 1, a2, hv, .inr ⟨hb, rfl, hp, hs, rfl, by omega, by omega, by omega⟩, hr⟩
    · refine (crossSort2_ct h_u hn_u bh_u hN ha.2.2).mono ?_
      rintro v R' ⟨b, A, c, hv, hp, hs, hr⟩
      rw [hlen b hp] at hv hr
      exact ⟨b, A, c, 0, a0, a1, a2 + 1, hv, .inr ⟨hb, rfl, hp, hs, rfl, by omega, by omega, by omega⟩, hr⟩
set_option maxRecDepth 100000 in
theorem crossRunNil_ct {w : World} {A_u : Option Addr} {n_u c_u : Nat} {u : List Int} (h_u : Rd w A_u n_u c_u 1 (ints .u8 u)) :
    Ct Try.prog 7 #[.pointer none, .slice A_u n_u c_u] w.heap.size w [] (fun v R' => v = .tuple #[.agg #[.slice none 0 0, .slice none 0 0, .bool false], .int .i64 1]) := by
  obtain rfl := h_u.lenI
  refine fnCT Try.func7 rfl rfl rfl Try.underlying28 rfl sz28 ?_
  have m_u := h_u.max
  refine w_seq ?_
  refine w_reg ?_
  refine wr_a rfl (a_alloc (sz := 3) zz28 rfl) ?_
  rintro _ _ ⟨g_1, rfl, rfl⟩
  refine wr_rows (R1 := [⟨28, 3, (some ⟨g_1, 0, none⟩), 1, 1, [.slice none 0 0, .slice none 0 0, .bool false], false⟩]) rfl ?_
  refine wr_y rfl (y_assign rfl) ?_
  refine wr_nil ?_
  refine w_seq ?_
  refine w_reg ?_
  refine wr_a rfl (a_alloc (sz := 3) zz49 rfl) ?_
  rintro _ _ ⟨g_2, rfl, rfl⟩
  refine wr_rows (R1 := [⟨49, 3, (some ⟨g_2, 0, none⟩), 1, 1, [.slice none 0 0, .slice none 0 0, .slice none 0 0], false⟩, ⟨28, 3, (some ⟨g_1, 0, none⟩), 1, 1, [.slice none 0 0, .slice none 0 0, .bool false], false⟩]) rfl ?_
  refine wr_nil ?_
  refine w_seq ?_
  refine w_seq ?_
  refine w_reg ?_
  refine wr_y rfl (y_move rfl) ?_
  refine wr_nil ?_
  refine w_block ?_
  refine w_rounds 1 ?_
  refine w_round ?_
  refine w_seq ?_
  refine w_reg ?_
  refine wr_y rfl (Yl.t (y_lt rfl rfl) (by decide)) ?_
  refine wr_nil ?_
  refine w_seq ?_
  refine w_true rfl ?_
  refine w_skip ?_
  refine w_seq ?_
  refine w_block ?_
  refine w_seq ?_
  refine w_reg ?_
  refine wr_y rfl (y_move rfl) ?_
  refine wr_y rfl (y_assign rfl) ?_
  refine wr_nil ?_
  refine w_seq ?_
  refine w_reg ?_
  refine wr_y rfl (y_move rfl) ?_
  refine wr_y rfl (y_move rfl) ?_
  refine wr_y rfl (y_move rfl) ?_
  refine wr_a rfl (a_callF en8 rfl (Ct.quiet (fun w hw => crossSortNil_ct ((h_u.c _) w hw)))) ?_
  rintro _ _ ⟨rfl, rfl⟩
  refine wr_y rfl (y_move rfl) ?_
  refine wr_y rfl (y_extract rfl rfl) ?_
  refine wr_y rfl (y_extract rfl rfl) ?_
  refine wr_y rfl (y_assign rfl) ?_
  refine wr_y rfl (y_assign rfl) ?_
  refine wr_nil ?_
  refine w_seq ?_
  refine w_seq ?_
  refine w_reg ?_
  refine wr_y rfl (y_move rfl) ?_
  refine wr_y rfl (Yl.t (y_ne rfl rfl) (by decide)) ?_
  refine wr_nil ?_
  refine w_true rfl ?_
  refine w_seq ?_
  refine w_reg ?_
  refine wr_y rfl (y_build (v := .agg #[.slice none 0 0, .slice none 0 0, .bool false]) rfl (fun w => by kernel_rfl)) ?_
  refine wr_y rfl (y_move rfl) ?_
  refine wr_n (a_storeAll (vs := [.slice none 0 0, .slice none 0 0, .bool false]) 1 rfl sz28 rfl rfl rfl (by intro v hv; simp at hv; rcases hv with rfl | rfl | rfl <;> rfl) rfl) ?_
  rintro _ _ rfl
  refine wr_rows (R1 := [⟨49, 3, (some ⟨g_2, 0, none⟩), 1, 1, [.slice none 0 0, .slice none 0 0, .slice none 0 0], false⟩, ⟨28, 3, (some ⟨g_1, 0, none⟩), 1, 1, [.slice none 0 0, .slice none 0 0, .bool false], false⟩]) rfl ?_
  refine wr_y rfl (y_assign rfl) ?_
  refine wr_nil ?_
  refine w_ret ?_
  refine ⟨_, 1, _, rfl, rfl, rfl, rfl, rfl, rfl, rfl, _, rfl, [], fun _ h => h.sel [] (by decide) rfl, ?_⟩
  rfl

set_option maxRecDepth 100000 in
theorem crossRunLong_ct {B : Nat} {w0 : World} {R : List Row} {g : Nat} {a0 a1 a2 : Int} {A_u : Option Addr} {n_u c_u : Nat} {u : List Int} (h_u : RdC B w0 R A_u n_u c_u 1 (ints .u8 u)) (hn_u : n_u = u.length) (hN : 100000 < u.length) :
    Ct Try.prog 7 #[.pointer (some ⟨g, 0, none⟩), .slice A_u n_u c_u] B w0 (⟨48, 3, (some ⟨g, 0, none⟩), 1, 1, [.int .i64 a0, .int .i64 a1, .int .i64 a2], false⟩ :: R) (fun v R' => v = .tuple #[.agg #[.slice none 0 0, .slice none 0 0, .bool false], .int .i64 2] ∧ R' = ⟨48, 3, (some ⟨g, 0, none⟩), 1, 1, [.int .i64 a0, .int .i64 a1, .int .i64 a2], false⟩ :: R) := by
  subst hn_u
  refine fnCT Try.func7 rfl rfl rfl Try.underlying28 rfl sz28 ?_
  refine w_seq ?_
  refine w_reg ?_
  refine wr_a rfl (a_alloc (sz := 3) zz28 rfl) ?_
  rintro _ _ ⟨g_1, rfl, rfl⟩
  refine wr_rows (R1 := (⟨28, 3, (some ⟨g_1, 0, none⟩), 1, 1, [.slice none 0 0, .slice none 0 0, .bool false], false⟩ :: ⟨48, 3, (some ⟨g, 0, none⟩), 1, 1, [.int .i64 a0, .int .i64 a1, .int .i64 a2], false⟩ :: R)) rfl ?_
  refine wr_y rfl (y_assign rfl) ?_
  refine wr_nil ?_
  refine w_seq ?_
  refine w_reg ?_
  refine wr_a rfl (a_alloc (sz := 3) zz49 rfl) ?_
  rintro _ _ ⟨g_2, rfl, rfl⟩
  refine wr_rows (R1 := (⟨49, 3, (some ⟨g_2, 0, none⟩), 1, 1, [.slice none 0 0, .slice none 0 0, .slice none 0 0], false⟩ :: ⟨28, 3, (some ⟨g_1, 0, none⟩), 1, 1, [.slice none 0 0, .slice none 0 0, .bool false], false⟩ :: ⟨48, 3, (some ⟨g, 0, none⟩), 1, 1, [.int .i64 a0, .int .i64 a1, .int .i64 a2], false⟩ :: R)) rfl ?_
  refine wr_nil ?_
  refine w_seq ?_
  refine w_seq ?_
  refine w_reg ?_
  refine wr_y rfl (y_move rfl) ?_
  refine wr_nil ?_
  refine w_block ?_
  refine w_rounds 1 ?_
  refine w_round ?_
  refine w_seq ?_
  refine w_reg ?_
  refine wr_y rfl (Yl.t (y_lt rfl rfl) (by decide)) ?_
  refine wr_nil ?_
  refine w_seq ?_
  refine w_true rfl ?_
  refine w_skip ?_
  refine w_seq ?_
  refine w_block ?_
  refine w_seq ?_
  refine w_reg ?_
  refine wr_y rfl (y_move rfl) ?_
  refine wr_y rfl (y_assign rfl) ?_
  refine wr_nil ?_
  refine w_seq ?_
  refine w_reg ?_
  refine wr_y rfl (y_move rfl) ?_
  refine wr_y rfl (y_move rfl) ?_
  refine wr_y rfl (y_move rfl) ?_
  refine wr_a rfl (a_callF en8 rfl (Ct.at 2 rfl (crossSortLong_ct (RdC.right h_u [_, _]) (by first | rfl | (simp; done) | omega) hN (by omega)))) ?_
  rintro _ _ ⟨rfl, rfl⟩
  refine wr_rows (R1 := (⟨49, 3, (some ⟨g_2, 0, none⟩), 1, 1, [.slice none 0 0, .slice none 0 0, .slice none 0 0], false⟩ :: ⟨28, 3, (some ⟨g_1, 0, none⟩), 1, 1, [.slice none 0 0, .slice none 0 0, .bool false], false⟩ :: ⟨48, 3, (some ⟨g, 0, none⟩), 1, 1, [.int .i64 a0, .int .i64 a1, .int .i64 a2], false⟩ :: R)) rfl ?_
  refine wr_y rfl (y_move rfl) ?_
  refine wr_y rfl (y_extract rfl rfl) ?_
  refine wr_y rfl (y_extract rfl rfl) ?_
  refine wr_y rfl (y_assign rfl) ?_
  refine wr_y rfl (y_assign rfl) ?_
  refine wr_nil ?_
  refine w_seq ?_
  refine w_seq ?_
  refine w_reg ?_
  refine wr_y rfl (y_move rfl) ?_
  refine wr_y rfl (Yl.t (y_ne rfl rfl) (by decide)) ?_
  refine wr_nil ?_
  refine w_true rfl ?_
  refine w_seq ?_
  refine w_reg ?_
  refine wr_y rfl (y_build (v := .agg #[.slice none 0 0, .slice none 0 0, .bool false]) rfl (fun w => by kernel_rfl)) ?_
  refine wr_y rfl (y_move rfl) ?_
  refine wr_n (a_storeAll (vs := [.slice none 0 0, .slice none 0 0, .bool false]) 1 rfl sz28 rfl rfl rfl (by intro v hv; simp at hv; rcases hv with rfl | rfl | rfl <;> rfl) rfl) ?_
  rintro _ _ rfl
  refine wr_rows (R1 := (⟨49, 3, (some ⟨g_2, 0, none⟩), 1, 1, [.slice none 0 0, .slice none 0 0, .slice none 0 0], false⟩ :: ⟨28, 3, (some ⟨g_1, 0, none⟩), 1, 1, [.slice none 0 0, .slice none 0 0, .bool false], false⟩ :: ⟨48, 3, (some ⟨g, 0, none⟩), 1, 1, [.int .i64 a0, .int .i64 a1, .int .i64 a2], false⟩ :: R)) rfl ?_
  refine wr_y rfl (y_assign rfl) ?_
  refine wr_nil ?_
  refine w_ret ?_
  refine ⟨_, 1, _, rfl, rfl, rfl, rfl, rfl, rfl, rfl, _, rfl, (⟨48, 3, (some ⟨g, 0, none⟩), 1, 1, [.int .i64 a0, .int .i64 a1, .int .i64 a2], false⟩ :: R), fun _ h => h.selR (F := [_, _, _]) (F' := [_]) [2] (by decide) rfl, ?_⟩
  exact ⟨rfl, rfl⟩

theorem aa_order : ([1, 0] : List Int).Perm (iota ([97, 97] : List Int).length) ∧ ([1, 0] : List Int).Pairwise (ordE [97, 97]) := by
  refine ⟨by decide +kernel, ?_⟩
  have h : ([1, 0] : List Int).Pairwise (fun x y => cmpL (([97, 97] : List Int).drop x.toNat) (([97, 97] : List Int).drop y.toNat) < 0) := by decide +kernel
  exact h.imp fun h => ordE_cmp.1 h
set_option maxRecDepth 100000 in
set_option maxHeartbeats 1000000 in
theorem known20_ct {w : World}  :
    Ct Try.prog 12 #[] w.heap.size w [] (fun v R' => v = .bool true) := by
  refine fn1 Try.func12 rfl rfl rfl ?_
  refine w_seq ?_
  refine w_reg ?_
  refine wr_y rfl (y_assign rfl) ?_
  refine wr_nil ?_
  refine w_seq ?_
  refine w_reg ?_
  refine wr_a rfl (a_callF en6 rfl (Ct.fresh (fun w hw => crossNew_ct))) ?_
  rintro _ _ ⟨_, rfl, g_1, rfl, rfl⟩
  refine wr_y rfl (y_assign rfl) ?_
  refine wr_nil ?_
  refine w_seq ?_
  refine w_seq ?_
  refine w_reg ?_
  refine wr_y rfl (y_move rfl) ?_
  refine wr_y rfl (y_ptrEq Try.underlying24 rfl rfl) ?_
  refine wr_nil ?_
  refine w_false rfl ?_
  refine w_skip ?_
  refine w_seq ?_
  refine w_reg ?_
  refine wr_y rfl (y_move rfl) ?_
  refine wr_a rfl (a_litI .u8 [97, 97] Try.underlying23 zs5 rfl rfl rfl) ?_
  rintro _ _ ⟨g_3, rfl, rfl⟩
  refine wr_a rfl (a_mark 0 rfl rfl Try.underlying23 Try.underlying5 rfl rfl) ?_
  rintro _ _ ⟨rfl, rfl⟩
  refine wr_rows (R1 := [⟨5, 1, (some ⟨g_3, 0, none⟩), 2, 2, ints .u8 ([97, 97]), true⟩, ⟨48, 3, (some ⟨g_1, 0, none⟩), 1, 1, [.int .i64 0, .int .i64 0, .int .i64 0], false⟩]) rfl ?_
  refine wr_a rfl (a_callF en7 rfl (Ct.sub (R1 := [⟨48, 3, (some ⟨g_1, 0, none⟩), 1, 1, [.int .i64 0, .int .i64 0, .int .i64 0], false⟩, ⟨5, 1, (some ⟨g_3, 0, none⟩), 2, 2, ints .u8 ([97, 97]), true⟩]) (fun _ h => h.sel [1, 0] (by decide) rfl) (crossRun_ct (rdR 0 (r := ⟨5, 1, (some ⟨g_3, 0, none⟩), 2, 2, ints .u8 ([97, 97]), true⟩) rfl) (by first | rfl | (simp; done) | omega) (by show ByteL [97, 97]; unfold ByteL; decide) (by show [97, 97].length ≤ 100000; decide) (by decide)))) ?_
  rintro _ _ ⟨b1, A_4, A_6, c_5, c_7, rfl, hp_b1, hs_b1, rfl⟩
  refine wr_y rfl (y_move rfl) ?_
  refine wr_y rfl (y_extract rfl rfl) ?_
  refine wr_y rfl (y_extract rfl rfl) ?_
  refine wr_a rfl (a_alloc (sz := 3) zz28 rfl) ?_
  rintro _ _ ⟨g_11, rfl, rfl⟩
  refine wr_rows (R1 := [⟨28, 3, (some ⟨g_11, 0, none⟩), 1, 1, [.slice none 0 0, .slice none 0 0, .bool false], false⟩, ⟨3, 1, A_4, ([97, 97]).length, c_5, ints .i64 b1, false⟩, ⟨3, 1, A_6, ([97, 97]).length, c_7, ints .i64 (lcpV ([97, 97]) b1), false⟩, ⟨48, 3, (some ⟨g_1, 0, none⟩), 1, 1, [.int .i64 (0 + 1), .int .i64 (0 + 1), .int .i64 (0 + 1)], false⟩, ⟨5, 1, (some ⟨g_3, 0, none⟩), 2, 2, ints .u8 ([97, 97]), true⟩]) rfl ?_
  refine wr_n (a_storeAll (vs := [.slice A_4 (([97, 97]).length) c_5, .slice A_6 (([97, 97]).length) c_7, .bool true]) 0 rfl sz28 rfl rfl rfl (by intro v hv; simp at hv; rcases hv with rfl | rfl | rfl <;> rfl) rfl) ?_
  rintro _ _ rfl
  refine wr_rows (R1 := [⟨28, 3, (some ⟨g_11, 0, none⟩), 1, 1, [.slice A_4 (([97, 97]).length) c_5, .slice A_6 (([97, 97]).length) c_7, .bool true], false⟩, ⟨3, 1, A_4, ([97, 97]).length, c_5, ints .i64 b1, false⟩, ⟨3, 1, A_6, ([97, 97]).length, c_7, ints .i64 (lcpV ([97, 97]) b1), false⟩, ⟨48, 3, (some ⟨g_1, 0, none⟩), 1, 1, [.int .i64 (0 + 1), .int .i64 (0 + 1), .int .i64 (0 + 1)], false⟩, ⟨5, 1, (some ⟨g_3, 0, none⟩), 2, 2, ints .u8 ([97, 97]), true⟩]) rfl ?_
  refine wr_y rfl (y_assign rfl) ?_
  refine wr_nil ?_
  refine w_seq ?_
  refine w_reg ?_
  refine wr_y rfl (y_move rfl) ?_
  refine wr_y rfl (Yl.t (y_eq rfl rfl) (by decide)) ?_
  refine wr_y rfl (y_move rfl) ?_
  refine wr_yes rfl rfl ?_
  refine wr_y rfl (y_fieldAt (off := 2) (m := 2) Try.underlying28 rfl sz4 rfl rfl rfl) ?_
  refine wr_yes rfl rfl ?_
  refine wr_y rfl (y_ldIn (rdR 0 (r := ⟨28, 3, (some ⟨g_11, 0, none⟩), 1, 1, [.slice A_4 (([97, 97]).length) c_5, .slice A_6 (([97, 97]).length) c_7, .bool true], false⟩) rfl) Try.underlying4 rfl rfl rfl) ?_
  refine wr_y rfl (y_pickT rfl rfl) ?_
  refine wr_y rfl (y_move rfl) ?_
  refine wr_yes rfl rfl ?_
  refine wr_y rfl (y_fieldAt (off := 0) (m := 0) Try.underlying28 rfl sz22 rfl rfl rfl) ?_
  refine wr_yes rfl rfl ?_
  refine wr_y rfl (y_ldIn (rdR 0 (r := ⟨28, 3, (some ⟨g_11, 0, none⟩), 1, 1, [.slice A_4 (([97, 97]).length) c_5, .slice A_6 (([97, 97]).length) c_7, .bool true], false⟩) rfl) Try.underlying22 rfl rfl rfl) ?_
  refine wr_yes rfl rfl ?_
  refine wr_a rfl (a_litI .i64 [1, 0] Try.underlying22 zs3 rfl rfl rfl) ?_
  rintro _ _ ⟨g_13, rfl, rfl⟩
  refine wr_yes rfl rfl ?_
  refine wr_a rfl (a_callF en9 rfl (Ct.quiet (fun w hw => ints4_ct ((rdr 2 rfl) w hw) ((rdr 0 rfl) w hw) (by rw [hp_b1.length_eq, iota_len]; decide)))) ?_
  rintro _ _ ⟨rfl, rfl⟩
  refine wr_setT 24 rfl (one_orderE hp_b1 aa_order.1 hs_b1 aa_order.2) ?_
  refine wr_y rfl (y_pickT rfl rfl) ?_
  refine wr_y rfl (y_move rfl) ?_
  refine wr_yes rfl rfl ?_
  refine wr_y rfl (y_fieldAt (off := 1) (m := 1) Try.underlying28 rfl sz22 rfl rfl rfl) ?_
  refine wr_yes rfl rfl ?_
  refine wr_y rfl (y_ldIn (rdR 1 (r := ⟨28, 3, (some ⟨g_11, 0, none⟩), 1, 1, [.slice A_4 (([97, 97]).length) c_5, .slice A_6 (([97, 97]).length) c_7, .bool true], false⟩) rfl) Try.underlying22 rfl rfl rfl) ?_
  refine wr_yes rfl rfl ?_
  refine wr_a rfl (a_litI .i64 [0, 1] Try.underlying22 zs3 rfl rfl rfl) ?_
  rintro _ _ ⟨g_15, rfl, rfl⟩
  refine wr_yes rfl rfl ?_
  refine wr_a rfl (a_callF en9 rfl (Ct.quiet (fun w hw => ints4_ct ((rdr 4 rfl) w hw) ((rdr 0 rfl) w hw) (by rw [lcpV_len, hp_b1.length_eq, iota_len]; decide)))) ?_
  rintro _ _ ⟨rfl, rfl⟩
  refine wr_setT 30 rfl (by rw [one_orderE hp_b1 aa_order.1 hs_b1 aa_order.2]; decide +kernel) ?_
  refine wr_y rfl (y_pickT rfl rfl) ?_
  refine wr_y rfl (y_move rfl) ?_
  refine wr_yes rfl rfl ?_
  refine wr_y rfl (y_move rfl) ?_
  refine wr_yes rfl rfl ?_
  refine wr_a rfl (a_callF en11 rfl (Ct.at 5 rfl (crossRuns_ct))) ?_
  rintro _ _ ⟨rfl, rfl⟩
  refine wr_rows (R1 := [⟨3, 1, (some ⟨g_15, 0, none⟩), 2, 2, ints .i64 ([0, 1]), false⟩, ⟨3, 1, (some ⟨g_13, 0, none⟩), 2, 2, ints .i64 ([1, 0]), false⟩, ⟨28, 3, (some ⟨g_11, 0, none⟩), 1, 1, [.slice A_4 (([97, 97]).length) c_5, .slice A_6 (([97, 97]).length) c_7, .bool true], false⟩, ⟨3, 1, A_4, ([97, 97]).length, c_5, ints .i64 b1, false⟩, ⟨3, 1, A_6, ([97, 97]).length, c_7, ints .i64 (lcpV ([97, 97]) b1), false⟩, ⟨48, 3, (some ⟨g_1, 0, none⟩), 1, 1, [.int .i64 (0 + 1), .int .i64 (0 + 1), .int .i64 (0 + 1)], false⟩, ⟨5, 1, (some ⟨g_3, 0, none⟩), 2, 2, ints .u8 ([97, 97]), true⟩]) rfl ?_
  refine wr_yes rfl rfl ?_
  refine wr_y rfl (y_build (v := .agg #[.int .i64 1, .int .i64 1, .int .i64 1]) rfl (fun w => by kernel_rfl)) ?_
  refine wr_yes rfl rfl ?_
  refine wr_y rfl (Yl.t (y_eqTri Try.underlying26 Try.underlying3 (fun w => by kernel_rfl) (by kernel_rfl) rfl rfl) (by decide)) ?_
  refine wr_y rfl (y_pickT rfl rfl) ?_
  refine wr_y rfl (y_assign rfl) ?_
  refine wr_nil ?_
  refine w_retR (R1 := []) (fun _ h => h.sel [] (by decide) rfl) ?_
  refine ⟨_, rfl, ?_⟩
  rfl

set_option maxRecDepth 100000 in
set_option maxHeartbeats 1000000 in
theorem crossLong_ct {w : World} {more : Int} {so : Int} :
    Ct Try.prog 4 #[.int .i64 more, .int .i64 so] w.heap.size w [] (fun v R' => v = .bool true) := by
  refine fn1 Try.func4 rfl rfl rfl ?_
  refine w_seq ?_
  refine w_reg ?_
  refine wr_y rfl (y_assign rfl) ?_
  refine wr_nil ?_
  refine w_seq ?_
  refine w_seq ?_
  refine w_reg ?_
  refine wr_y rfl (y_move rfl) ?_
  refine wr_y rfl (y_lt rfl rfl) ?_
  refine wr_y rfl (y_move rfl) ?_
  refine wr_mid 3 [(0, .int .i64 more), (1, .int .i64 so), (16, .bool (decide ((more < 1) ∨ (3 < more))))] [] ?_ ?_
  ·
    refine wr_case 13 rfl (fun hc1 => ?_) (fun hc1 => ?_)
    ·
      refine wr_no rfl rfl rfl rfl ?_
      refine wr_no rfl rfl rfl rfl ?_
      refine wr_y rfl (y_pickT rfl rfl) ?_
      refine wr_nil ?_
      exact ⟨(Sub.cons rfl (Sub.cons rfl (Sub.to rfl (mb_t (by first | omega | exact ⟨fun h => ⟨(by assumption), h⟩, fun h => h.2⟩ | exact .inl (by assumption) | exact ⟨.inr, fun h => h.resolve_left (by assumption)⟩ | exact ⟨fun h => h.resolve_left (by assumption), .inr⟩ | simp [*])) Sub.nil))), fun _ h => h⟩
    ·
      refine wr_yes rfl rfl ?_
      refine wr_y rfl (y_move rfl) ?_
      refine wr_yes rfl rfl ?_
      refine wr_y rfl (y_gt rfl rfl) ?_
      refine wr_y rfl (y_pickF rfl rfl) ?_
      refine wr_nil ?_
      exact ⟨(Sub.cons rfl (Sub.cons rfl (Sub.to rfl (mb (by first | omega | exact ⟨fun h => ⟨(by assumption), h⟩, fun h => h.2⟩ | exact .inl (by assumption) | exact ⟨.inr, fun h => h.resolve_left (by assumption)⟩ | exact ⟨fun h => h.resolve_left (by assumption), .inr⟩ | simp [*])) Sub.nil))), fun _ h => h⟩
  refine wr_y rfl (y_move rfl) ?_
  refine wr_mid 3 [(0, .int .i64 more), (1, .int .i64 so), (20, .bool (decide (((more < 1) ∨ (3 < more)) ∨ (so < 0))))] [] ?_ ?_
  ·
    refine wr_case 17 rfl (fun hc2 => ?_) (fun hc2 => ?_)
    ·
      refine wr_no rfl rfl rfl rfl ?_
      refine wr_no rfl rfl rfl rfl ?_
      refine wr_y rfl (y_pickT rfl rfl) ?_
      refine wr_nil ?_
      exact ⟨(Sub.cons rfl (Sub.cons rfl (Sub.to rfl (mb_t (by first | omega | exact ⟨fun h => ⟨(by assumption), h⟩, fun h => h.2⟩ | exact .inl (by assumption) | exact ⟨.inr, fun h => h.resolve_left (by assumption)⟩ | exact ⟨fun h => h.resolve_left (by assumption), .inr⟩ | simp [*])) Sub.nil))), fun _ h => h⟩
    ·
      refine wr_yes rfl rfl ?_
      refine wr_y rfl (y_move rfl) ?_
      refine wr_yes rfl rfl ?_
      refine wr_y rfl (y_lt rfl rfl) ?_
      refine wr_y rfl (y_pickF rfl rfl) ?_
      refine wr_nil ?_
      exact ⟨(Sub.cons rfl (Sub.cons rfl (Sub.to rfl (mb (by first | omega | exact ⟨fun h => ⟨(by assumption), h⟩, fun h => h.2⟩ | exact .inl (by assumption) | exact ⟨.inr, fun h => h.resolve_left (by assumption)⟩ | exact ⟨fun h => h.resolve_left (by assumption), .inr⟩ | simp [*])) Sub.nil))), fun _ h => h⟩
  refine wr_y rfl (y_move rfl) ?_
  refine wr_mid 3 [(0, .int .i64 more), (1, .int .i64 so), (24, .bool (decide ((((more < 1) ∨ (3 < more)) ∨ (so < 0)) ∨ (2 < so))))] [] ?_ ?_
  ·
    refine wr_case 21 rfl (fun hc3 => ?_) (fun hc3 => ?_)
    ·
      refine wr_no rfl rfl rfl rfl ?_
      refine wr_no rfl rfl rfl rfl ?_
      refine wr_y rfl (y_pickT rfl rfl) ?_
      refine wr_nil ?_
      exact ⟨(Sub.cons rfl (Sub.cons rfl (Sub.to rfl (mb_t (by first | omega | exact ⟨fun h => ⟨(by assumption), h⟩, fun h => h.2⟩ | exact .inl (by assumption) | exact ⟨.inr, fun h => h.resolve_left (by assumption)⟩ | exact ⟨fun h => h.resolve_left (by assumption), .inr⟩ | simp [*])) Sub.nil))), fun _ h => h⟩
    ·
      refine wr_yes rfl rfl ?_
      refine wr_y rfl (y_move rfl) ?_
      refine wr_yes rfl rfl ?_
      refine wr_y rfl (y_gt rfl rfl) ?_
      refine wr_y rfl (y_pickF rfl rfl) ?_
      refine wr_nil ?_
      exact ⟨(Sub.cons rfl (Sub.cons rfl (Sub.to rfl (mb (by first | omega | exact ⟨fun h => ⟨(by assumption), h⟩, fun h => h.2⟩ | exact .inl (by assumption) | exact ⟨.inr, fun h => h.resolve_left (by assumption)⟩ | exact ⟨fun h => h.resolve_left (by assumption), .inr⟩ | simp [*])) Sub.nil))), fun _ h => h⟩
  refine wr_nil ?_
  refine w_if rfl (fun hc4 => ?_) (fun hc4 => ?_)
  ·
    refine w_seq ?_
    refine w_reg ?_
    refine wr_y rfl (y_assign rfl) ?_
    refine wr_nil ?_
    refine w_ret ?_
    refine ⟨_, rfl, ?_⟩
    rfl
  ·
    refine w_skip ?_
    refine w_seq ?_
    refine w_reg ?_
    refine wr_a rfl (a_callF en6 rfl (Ct.fresh (fun w hw => crossNew_ct))) ?_
    rintro _ _ ⟨_, rfl, g_1, rfl, rfl⟩
    refine wr_y rfl (y_assign rfl) ?_
    refine wr_nil ?_
    refine w_seq ?_
    refine w_seq ?_
    refine w_reg ?_
    refine wr_y rfl (y_move rfl) ?_
    refine wr_y rfl (y_ptrEq Try.underlying24 rfl rfl) ?_
    refine wr_nil ?_
    refine w_false rfl ?_
    refine w_skip ?_
    refine w_seq ?_
    refine w_reg ?_
    refine wr_y rfl (y_move rfl) ?_
    refine wr_y rfl (y_addI rfl rfl (by omega)) ?_
    refine wr_a rfl (a_makeN Try.underlying23 zb5 rfl rfl (by omega) (by omega) (by omega)) ?_
    rintro _ _ ⟨g_3, rfl, rfl⟩
    refine wr_rows (R1 := [⟨5, 1, (some ⟨g_3, 0, none⟩), ((100000 + more).toNat), ((100000 + more).toNat), ints .u8 (List.replicate ((100000 + more).toNat) (0 : Int)), false⟩, ⟨48, 3, (some ⟨g_1, 0, none⟩), 1, 1, [.int .i64 0, .int .i64 0, .int .i64 0], false⟩]) rfl ?_
    refine wr_as (v := .slice (some ⟨g_3, 0, none⟩) ((100000 + more).toNat) ((100000 + more).toNat)) rfl ?_
    refine wr_y rfl (y_assign rfl) ?_
    refine wr_nil ?_
    refine w_seq ?_
    refine w_reg ?_
    refine wr_y rfl (y_move rfl) ?_
    refine wr_y rfl (y_move rfl) ?_
    refine wr_a rfl (a_callF en7 rfl (Ct.at 1 rfl (crossRunLong_ct (rdR 0 (r := ⟨5, 1, (some ⟨g_3, 0, none⟩), ((100000 + more).toNat), ((100000 + more).toNat), ints .u8 (List.replicate ((100000 + more).toNat) (0 : Int)), false⟩) rfl) (by rw [List.length_replicate]) (by rw [List.length_replicate]; omega)))) ?_
    rintro _ _ ⟨rfl, rfl⟩
    refine wr_rows (R1 := [⟨5, 1, (some ⟨g_3, 0, none⟩), ((100000 + more).toNat), ((100000 + more).toNat), ints .u8 (List.replicate ((100000 + more).toNat) (0 : Int)), false⟩, ⟨48, 3, (some ⟨g_1, 0, none⟩), 1, 1, [.int .i64 0, .int .i64 0, .int .i64 0], false⟩]) rfl ?_
    refine wr_y rfl (y_move rfl) ?_
    refine wr_y rfl (y_extract rfl rfl) ?_
    refine wr_y rfl (y_extract rfl rfl) ?_
    refine wr_a rfl (a_alloc (sz := 3) zz28 rfl) ?_
    rintro _ _ ⟨g_5, rfl, rfl⟩
    refine wr_rows (R1 := [⟨28, 3, (some ⟨g_5, 0, none⟩), 1, 1, [.slice none 0 0, .slice none 0 0, .bool false], false⟩, ⟨5, 1, (some ⟨g_3, 0, none⟩), ((100000 + more).toNat), ((100000 + more).toNat), ints .u8 (List.replicate ((100000 + more).toNat) (0 : Int)), false⟩, ⟨48, 3, (some ⟨g_1, 0, none⟩), 1, 1, [.int .i64 0, .int .i64 0, .int .i64 0], false⟩]) rfl ?_
    refine wr_n (a_storeAll (vs := [.slice none 0 0, .slice none 0 0, .bool false]) 0 rfl sz28 rfl rfl rfl (by intro v hv; simp at hv; rcases hv with rfl | rfl | rfl <;> rfl) rfl) ?_
    rintro _ _ rfl
    refine wr_rows (R1 := [⟨28, 3, (some ⟨g_5, 0, none⟩), 1, 1, [.slice none 0 0, .slice none 0 0, .bool false], false⟩, ⟨5, 1, (some ⟨g_3, 0, none⟩), ((100000 + more).toNat), ((100000 + more).toNat), ints .u8 (List.replicate ((100000 + more).toNat) (0 : Int)), false⟩, ⟨48, 3, (some ⟨g_1, 0, none⟩), 1, 1, [.int .i64 0, .int .i64 0, .int .i64 0], false⟩]) rfl ?_
    refine wr_y rfl (y_assign rfl) ?_
    refine wr_nil ?_
    refine w_seq ?_
    refine w_reg ?_
    refine wr_y rfl (y_move rfl) ?_
    refine wr_y rfl (y_move rfl) ?_
    refine wr_y rfl (y_move rfl) ?_
    refine wr_a rfl (a_callF en8 rfl (Ct.at 2 rfl (crossSortLong_ct (rdR 1 (r := ⟨5, 1, (some ⟨g_3, 0, none⟩), ((100000 + more).toNat), ((100000 + more).toNat), ints .u8 (List.replicate ((100000 + more).toNat) (0 : Int)), false⟩) rfl) (by rw [List.length_replicate]) (by rw [List.length_replicate]; omega) (by omega)))) ?_
    rintro _ _ ⟨rfl, rfl⟩
    refine wr_rows (R1 := [⟨28, 3, (some ⟨g_5, 0, none⟩), 1, 1, [.slice none 0 0, .slice none 0 0, .bool false], false⟩, ⟨5, 1, (some ⟨g_3, 0, none⟩), ((100000 + more).toNat), ((100000 + more).toNat), ints .u8 (List.replicate ((100000 + more).toNat) (0 : Int)), false⟩, ⟨48, 3, (some ⟨g_1, 0, none⟩), 1, 1, [.int .i64 0, .int .i64 0, .int .i64 0], false⟩]) rfl ?_
    refine wr_y rfl (y_move rfl) ?_
    refine wr_y rfl (y_extract rfl rfl) ?_
    refine wr_y rfl (y_extract rfl rfl) ?_
    refine wr_y rfl (y_assign rfl) ?_
    refine wr_y rfl (y_assign rfl) ?_
    refine wr_nil ?_
    refine w_seq ?_
    refine w_reg ?_
    refine wr_y rfl (y_move rfl) ?_
    refine wr_y rfl (Yl.t (y_eq rfl rfl) (rfl)) ?_
    refine wr_y rfl (y_move rfl) ?_
    refine wr_yes rfl rfl ?_
    refine wr_y rfl (y_move rfl) ?_
    refine wr_yes rfl rfl ?_
    refine wr_y rfl (Yl.t (y_eq rfl rfl) (rfl)) ?_
    refine wr_y rfl (y_pickT rfl rfl) ?_
    refine wr_y rfl (y_move rfl) ?_
    refine wr_yes rfl rfl ?_
    refine wr_y rfl (y_move rfl) ?_
    refine wr_yes rfl rfl ?_
    refine wr_a rfl (a_callF en11 rfl (Ct.at 2 rfl (crossRuns_ct))) ?_
    rintro _ _ ⟨rfl, rfl⟩
    refine wr_rows (R1 := [⟨28, 3, (some ⟨g_5, 0, none⟩), 1, 1, [.slice none 0 0, .slice none 0 0, .bool false], false⟩, ⟨5, 1, (some ⟨g_3, 0, none⟩), ((100000 + more).toNat), ((100000 + more).toNat), ints .u8 (List.replicate ((100000 + more).toNat) (0 : Int)), false⟩, ⟨48, 3, (some ⟨g_1, 0, none⟩), 1, 1, [.int .i64 0, .int .i64 0, .int .i64 0], false⟩]) rfl ?_
    refine wr_yes rfl rfl ?_
    refine wr_y rfl (y_build (v := .agg #[.int .i64 0, .int .i64 0, .int .i64 0]) rfl (fun w => by kernel_rfl)) ?_
    refine wr_yes rfl rfl ?_
    refine wr_y rfl (Yl.t (y_eqTri Try.underlying26 Try.underlying3 (fun w => by kernel_rfl) (by kernel_rfl) rfl rfl) (rfl)) ?_
    refine wr_y rfl (y_pickT rfl rfl) ?_
    refine wr_y rfl (y_move rfl) ?_
    refine wr_yes rfl rfl ?_
    refine wr_a rfl (a_callF en12 rfl (Ct.quiet (fun w hw => known20_ct))) ?_
    rintro _ _ ⟨rfl, rfl⟩
    refine wr_setT 57 rfl (trivial) ?_
    refine wr_y rfl (y_pickT rfl rfl) ?_
    refine wr_y rfl (y_assign rfl) ?_
    refine wr_nil ?_
    refine w_retR (R1 := []) (fun _ h => h.sel [] (by decide) rfl) ?_
    refine ⟨_, rfl, ?_⟩
    rfl

set_option maxRecDepth 100000 in
set_option maxHeartbeats 2000000 in
theorem crossOwn_ct {w : World} {A_u : Option Addr} {n_u c_u : Nat} {u : List Int} (h_u : Rd w A_u n_u c_u 1 (ints .u8 u)) (bh_u : ByteL u) :
    Ct Try.prog 5 #[.slice A_u n_u c_u] w.heap.size w [] (fun v R' => v = .bool true) := by
  obtain rfl := h_u.lenI
  refine fn1 Try.func5 rfl rfl rfl ?_
  have m_u := h_u.max
  have hln : ([] ++ u : List Int).length = u.length := rfl
  refine w_seq ?_
  refine w_reg ?_
  refine wr_y rfl (y_assign rfl) ?_
  refine wr_nil ?_
  refine w_seq ?_
  refine w_seq ?_
  refine w_reg ?_
  refine wr_y rfl (y_move rfl) ?_
  refine wr_y rfl (y_len Try.underlying23 rfl) ?_
  refine wr_y rfl (y_lt rfl rfl) ?_
  refine wr_y rfl (y_move rfl) ?_
  refine wr_mid 4 [(0, .slice A_u u.length c_u), (17, .bool (decide ((((u.length : Nat) : Int) < 1) ∨ (100 < ((u.length : Nat) : Int)))))] [] ?_ ?_
  ·
    refine wr_case 13 rfl (fun hc1 => ?_) (fun hc1 => ?_)
    ·
      refine wr_no rfl rfl rfl rfl ?_
      refine wr_no rfl rfl rfl rfl ?_
      refine wr_no rfl rfl rfl rfl ?_
      refine wr_y rfl (y_pickT rfl rfl) ?_
      refine wr_nil ?_
      exact ⟨(Sub.cons rfl (Sub.to rfl (mb_t (by first | omega | exact ⟨fun h => ⟨(by assumption), h⟩, fun h => h.2⟩ | exact .inl (by assumption) | exact ⟨.inr, fun h => h.resolve_left (by assumption)⟩ | exact ⟨fun h => h.resolve_left (by assumption), .inr⟩ | simp [*])) Sub.nil)), fun _ h => h⟩
    ·
      refine wr_yes rfl rfl ?_
      refine wr_y rfl (y_move rfl) ?_
      refine wr_yes rfl rfl ?_
      refine wr_y rfl (y_len Try.underlying23 rfl) ?_
      refine wr_yes rfl rfl ?_
      refine wr_y rfl (y_gt rfl rfl) ?_
      refine wr_y rfl (y_pickF rfl rfl) ?_
      refine wr_nil ?_
      exact ⟨(Sub.cons rfl (Sub.to rfl (mb (by first | omega | exact ⟨fun h => ⟨(by assumption), h⟩, fun h => h.2⟩ | exact .inl (by assumption) | exact ⟨.inr, fun h => h.resolve_left (by assumption)⟩ | exact ⟨fun h => h.resolve_left (by assumption), .inr⟩ | simp [*])) Sub.nil)), fun _ h => h⟩
  refine wr_nil ?_
  refine w_if rfl (fun hc2 => ?_) (fun hc2 => ?_)
  ·
    refine w_seq ?_
    refine w_reg ?_
    refine wr_y rfl (y_assign rfl) ?_
    refine wr_nil ?_
    refine w_ret ?_
    refine ⟨_, rfl, ?_⟩
    rfl
  ·
    refine w_skip ?_
    refine w_seq ?_
    refine w_reg ?_
    refine wr_a rfl (a_callF en6 rfl (Ct.fresh (fun w hw => crossNew_ct))) ?_
    rintro _ _ ⟨_, rfl, g_1, rfl, rfl⟩
    refine wr_y rfl (y_assign rfl) ?_
    refine wr_nil ?_
    refine w_seq ?_
    refine w_seq ?_
    refine w_reg ?_
    refine wr_y rfl (y_move rfl) ?_
    refine wr_y rfl (y_ptrEq Try.underlying24 rfl rfl) ?_
    refine wr_nil ?_
    refine w_false rfl ?_
    refine w_skip ?_
    refine w_seq ?_
    refine w_reg ?_
    refine wr_a rfl (a_litI .u8 [] Try.underlying23 zs5 rfl rfl rfl) ?_
    rintro _ _ ⟨g_3, rfl, rfl⟩
    refine wr_y rfl (y_move rfl) ?_
    refine wr_a rfl (a_appendI 0 rfl Try.underlying23 zb5 rfl rfl rfl (h_u.c _) (by omega)) ?_
    rintro _ _ ⟨A_4, c_5, rfl, rfl⟩
    refine wr_rows (R1 := [⟨5, 1, A_4, (0 + u.length), c_5, ints .u8 (([]) ++ u), false⟩, ⟨48, 3, (some ⟨g_1, 0, none⟩), 1, 1, [.int .i64 0, .int .i64 0, .int .i64 0], false⟩]) rfl ?_
    refine wr_as (v := .slice A_4 (0 + u.length) c_5) rfl ?_
    refine wr_y rfl (y_assign rfl) ?_
    refine wr_nil ?_
    refine w_seq ?_
    refine w_reg ?_
    refine wr_y rfl (y_move rfl) ?_
    refine wr_y rfl (y_move rfl) ?_
    refine wr_a rfl (a_callF en7 rfl (Ct.sub (R1 := [⟨48, 3, (some ⟨g_1, 0, none⟩), 1, 1, [.int .i64 0, .int .i64 0, .int .i64 0], false⟩, ⟨5, 1, A_4, (0 + u.length), c_5, ints .u8 (([]) ++ u), false⟩]) (fun _ h => h.sel [1, 0] (by decide) rfl) (crossRun_ct (rdR 0 (r := ⟨5, 1, A_4, (0 + u.length), c_5, ints .u8 (([]) ++ u), false⟩) rfl) (by first | rfl | (simp; done) | omega) bh_u (by omega) (by decide)))) ?_
    rintro _ _ ⟨b1, A_6, A_8, c_7, c_9, rfl, hp_b1, hs_b1, rfl⟩
    refine wr_y rfl (y_move rfl) ?_
    refine wr_y rfl (y_extract rfl rfl) ?_
    refine wr_y rfl (y_extract rfl rfl) ?_
    refine wr_a rfl (a_alloc (sz := 3) zz28 rfl) ?_
    rintro _ _ ⟨g_13, rfl, rfl⟩
    refine wr_rows (R1 := [⟨28, 3, (some ⟨g_13, 0, none⟩), 1, 1, [.slice none 0 0, .slice none 0 0, .bool false], false⟩, ⟨3, 1, A_6, (([]) ++ u).length, c_7, ints .i64 b1, false⟩, ⟨3, 1, A_8, (([]) ++ u).length, c_9, ints .i64 (lcpV (([]) ++ u) b1), false⟩, ⟨48, 3, (some ⟨g_1, 0, none⟩), 1, 1, [.int .i64 (0 + 1), .int .i64 (0 + 1), .int .i64 (0 + 1)], false⟩, ⟨5, 1, A_4, (0 + u.length), c_5, ints .u8 (([]) ++ u), false⟩]) rfl ?_
    refine wr_n (a_storeAll (vs := [.slice A_6 ((([]) ++ u).length) c_7, .slice A_8 ((([]) ++ u).length) c_9, .bool true]) 0 rfl sz28 rfl rfl rfl (by intro v hv; simp at hv; rcases hv with rfl | rfl | rfl <;> rfl) rfl) ?_
    rintro _ _ rfl
    refine wr_rows (R1 := [⟨28, 3, (some ⟨g_13, 0, none⟩), 1, 1, [.slice A_6 ((([]) ++ u).length) c_7, .slice A_8 ((([]) ++ u).length) c_9, .bool true], false⟩, ⟨3, 1, A_6, (([]) ++ u).length, c_7, ints .i64 b1, false⟩, ⟨3, 1, A_8, (([]) ++ u).length, c_9, ints .i64 (lcpV (([]) ++ u) b1), false⟩, ⟨48, 3, (some ⟨g_1, 0, none⟩), 1, 1, [.int .i64 (0 + 1), .int .i64 (0 + 1), .int .i64 (0 + 1)], false⟩, ⟨5, 1, A_4, (0 + u.length), c_5, ints .u8 (([]) ++ u), false⟩]) rfl ?_
    refine wr_y rfl (y_assign rfl) ?_
    refine wr_nil ?_
    refine w_seq ?_
    refine w_seq ?_
    refine w_reg ?_
    refine wr_y rfl (y_move rfl) ?_
    refine wr_y rfl (Yl.f (y_ne rfl rfl) (by decide)) ?_
    refine wr_y rfl (y_move rfl) ?_
    refine wr_yes rfl rfl ?_
    refine wr_y rfl (y_fieldAt (off := 0) (m := 0) Try.underlying28 rfl sz22 rfl rfl rfl) ?_
    refine wr_yes rfl rfl ?_
    refine wr_y rfl (y_ldIn (rdR 0 (r := ⟨28, 3, (some ⟨g_13, 0, none⟩), 1, 1, [.slice A_6 ((([]) ++ u).length) c_7, .slice A_8 ((([]) ++ u).length) c_9, .bool true], false⟩) rfl) Try.underlying22 rfl rfl rfl) ?_
    refine wr_yes rfl rfl ?_
    refine wr_y rfl (y_len Try.underlying22 rfl) ?_
    refine wr_yes rfl rfl ?_
    refine wr_y rfl (y_move rfl) ?_
    refine wr_yes rfl rfl ?_
    refine wr_y rfl (y_len Try.underlying23 rfl) ?_
    refine wr_yes rfl rfl ?_
    refine wr_y rfl (Yl.f (y_ne rfl rfl) (by omega)) ?_
    refine wr_y rfl (y_pickF rfl rfl) ?_
    refine wr_y rfl (y_move rfl) ?_
    refine wr_yes rfl rfl ?_
    refine wr_y rfl (y_fieldAt (off := 1) (m := 1) Try.underlying28 rfl sz22 rfl rfl rfl) ?_
    refine wr_yes rfl rfl ?_
    refine wr_y rfl (y_ldIn (rdR 0 (r := ⟨28, 3, (some ⟨g_13, 0, none⟩), 1, 1, [.slice A_6 ((([]) ++ u).length) c_7, .slice A_8 ((([]) ++ u).length) c_9, .bool true], false⟩) rfl) Try.underlying22 rfl rfl rfl) ?_
    refine wr_yes rfl rfl ?_
    refine wr_y rfl (y_len Try.underlying22 rfl) ?_
    refine wr_yes rfl rfl ?_
    refine wr_y rfl (y_move rfl) ?_
    refine wr_yes rfl rfl ?_
    refine wr_y rfl (y_len Try.underlying23 rfl) ?_
    refine wr_yes rfl rfl ?_
    refine wr_y rfl (Yl.f (y_ne rfl rfl) (by omega)) ?_
    refine wr_y rfl (y_pickF rfl rfl) ?_
    refine wr_nil ?_
    refine w_false rfl ?_
    refine w_skip ?_
    refine w_seq ?_
    refine w_reg ?_
    refine wr_a rfl (a_litI .i64 [] Try.underlying22 zs3 rfl rfl rfl) ?_
    rintro _ _ ⟨g_15, rfl, rfl⟩
    refine wr_y rfl (y_fieldAt (off := 0) (m := 0) Try.underlying28 rfl sz22 rfl rfl rfl) ?_
    refine wr_y rfl (y_ldIn (rdR 1 (r := ⟨28, 3, (some ⟨g_13, 0, none⟩), 1, 1, [.slice A_6 ((([]) ++ u).length) c_7, .slice A_8 ((([]) ++ u).length) c_9, .bool true], false⟩) rfl) Try.underlying22 rfl rfl rfl) ?_
    refine wr_a rfl (a_appendI 0 rfl Try.underlying22 zb3 rfl rfl rfl (rdr 2 rfl) (by omega)) ?_
    rintro _ _ ⟨A_16, c_17, rfl, rfl⟩
    refine wr_rows (R1 := [⟨3, 1, A_16, (0 + ((([]) ++ u).length)), c_17, ints .i64 (([]) ++ b1), false⟩, ⟨28, 3, (some ⟨g_13, 0, none⟩), 1, 1, [.slice A_6 ((([]) ++ u).length) c_7, .slice A_8 ((([]) ++ u).length) c_9, .bool true], false⟩, ⟨3, 1, A_6, (([]) ++ u).length, c_7, ints .i64 b1, false⟩, ⟨3, 1, A_8, (([]) ++ u).length, c_9, ints .i64 (lcpV (([]) ++ u) b1), false⟩, ⟨48, 3, (some ⟨g_1, 0, none⟩), 1, 1, [.int .i64 (0 + 1), .int .i64 (0 + 1), .int .i64 (0 + 1)], false⟩, ⟨5, 1, A_4, (0 + u.length), c_5, ints .u8 (([]) ++ u), false⟩]) rfl ?_
    refine wr_as (v := .slice A_16 (0 + ((([]) ++ u).length)) c_17) rfl ?_
    refine wr_y rfl (y_assign rfl) ?_
    refine wr_nil ?_
    refine w_seq ?_
    refine w_reg ?_
    refine wr_y rfl (y_fieldAt (off := 0) (m := 0) Try.underlying28 rfl sz22 rfl rfl rfl) ?_
    refine wr_y rfl (y_ldIn (rdR 1 (r := ⟨28, 3, (some ⟨g_13, 0, none⟩), 1, 1, [.slice A_6 ((([]) ++ u).length) c_7, .slice A_8 ((([]) ++ u).length) c_9, .bool true], false⟩) rfl) Try.underlying22 rfl rfl rfl) ?_
    refine wr_y rfl (y_index1 Try.underlying22 sz3 rfl rfl (rdr 2 rfl) (by omega) (by omega)) ?_
    refine wr_y rfl (y_ldI Try.underlying3 rfl rfl (rdr 2 rfl) (by omega) (by omega)) ?_
    refine wr_y rfl (y_addI rfl rfl (by have := mem_iota.1 (hp_b1.subset (rd_mem (L := b1) (k := 0) (by omega) (by rw [hp_b1.length_eq, iota_len]; omega))); omega)) ?_
    refine wr_y rfl (y_index1 Try.underlying22 sz3 rfl rfl (rdr 2 rfl) (by omega) (by omega)) ?_
    refine wr_n (a_storeI 2 rfl sz3 rfl rfl (by omega) (by omega)) ?_
    rintro _ _ rfl
    refine wr_rows (R1 := [⟨3, 1, A_16, (0 + ((([]) ++ u).length)), c_17, ints .i64 (([]) ++ b1), false⟩, ⟨28, 3, (some ⟨g_13, 0, none⟩), 1, 1, [.slice A_6 ((([]) ++ u).length) c_7, .slice A_8 ((([]) ++ u).length) c_9, .bool true], false⟩, ⟨3, 1, A_6, (([]) ++ u).length, c_7, ints .i64 (upd b1 0 ((rd b1 0) + 1)), false⟩, ⟨3, 1, A_8, (([]) ++ u).length, c_9, ints .i64 (lcpV (([]) ++ u) b1), false⟩, ⟨48, 3, (some ⟨g_1, 0, none⟩), 1, 1, [.int .i64 (0 + 1), .int .i64 (0 + 1), .int .i64 (0 + 1)], false⟩, ⟨5, 1, A_4, (0 + u.length), c_5, ints .u8 (([]) ++ u), false⟩]) rfl ?_
    refine wr_nil ?_
    refine w_seq ?_
    refine w_reg ?_
    refine wr_y rfl (y_fieldAt (off := 1) (m := 1) Try.underlying28 rfl sz22 rfl rfl rfl) ?_
    refine wr_y rfl (y_ldIn (rdR 1 (r := ⟨28, 3, (some ⟨g_13, 0, none⟩), 1, 1, [.slice A_6 ((([]) ++ u).length) c_7, .slice A_8 ((([]) ++ u).length) c_9, .bool true], false⟩) rfl) Try.underlying22 rfl rfl rfl) ?_
    refine wr_y rfl (y_index1 Try.underlying22 sz3 rfl rfl (rdr 3 rfl) (by omega) (by omega)) ?_
    refine wr_y rfl (y_ldI Try.underlying3 rfl rfl (rdr 3 rfl) (by omega) (by omega)) ?_
    refine wr_y rfl (y_addI rfl rfl (by rw [rd_lcpV (by omega) (by rw [hp_b1.length_eq, iota_len]; omega), if_pos rfl]; omega)) ?_
    refine wr_y rfl (y_index1 Try.underlying22 sz3 rfl rfl (rdr 3 rfl) (by omega) (by omega)) ?_
    refine wr_n (a_storeI 3 rfl sz3 rfl rfl (by omega) (by omega)) ?_
    rintro _ _ rfl
    refine wr_rows (R1 := [⟨3, 1, A_16, (0 + ((([]) ++ u).length)), c_17, ints .i64 (([]) ++ b1), false⟩, ⟨28, 3, (some ⟨g_13, 0, none⟩), 1, 1, [.slice A_6 ((([]) ++ u).length) c_7, .slice A_8 ((([]) ++ u).length) c_9, .bool true], false⟩, ⟨3, 1, A_6, (([]) ++ u).length, c_7, ints .i64 (upd b1 0 ((rd b1 0) + 1)), false⟩, ⟨3, 1, A_8, (([]) ++ u).length, c_9, ints .i64 (upd (lcpV (([]) ++ u) b1) 0 ((rd (lcpV (([]) ++ u) b1) 0) + 1)), false⟩, ⟨48, 3, (some ⟨g_1, 0, none⟩), 1, 1, [.int .i64 (0 + 1), .int .i64 (0 + 1), .int .i64 (0 + 1)], false⟩, ⟨5, 1, A_4, (0 + u.length), c_5, ints .u8 (([]) ++ u), false⟩]) rfl ?_
    refine wr_nil ?_
    refine w_seq ?_
    refine w_reg ?_
    refine wr_y rfl (y_move rfl) ?_
    refine wr_y rfl (y_move rfl) ?_
    refine wr_a rfl (a_callF en7 rfl (Ct.sub (R1 := [⟨48, 3, (some ⟨g_1, 0, none⟩), 1, 1, [.int .i64 (0 + 1), .int .i64 (0 + 1), .int .i64 (0 + 1)], false⟩, ⟨3, 1, A_16, (0 + ((([]) ++ u).length)), c_17, ints .i64 (([]) ++ b1), false⟩, ⟨28, 3, (some ⟨g_13, 0, none⟩), 1, 1, [.slice A_6 ((([]) ++ u).length) c_7, .slice A_8 ((([]) ++ u).length) c_9, .bool true], false⟩, ⟨3, 1, A_6, (([]) ++ u).length, c_7, ints .i64 (upd b1 0 ((rd b1 0) + 1)), false⟩, ⟨3, 1, A_8, (([]) ++ u).length, c_9, ints .i64 (upd (lcpV (([]) ++ u) b1) 0 ((rd (lcpV (([]) ++ u) b1) 0) + 1)), false⟩, ⟨5, 1, A_4, (0 + u.length), c_5, ints .u8 (([]) ++ u), false⟩]) (fun _ h => h.sel [4, 0, 1, 2, 3, 5] (by decide) rfl) (crossRun_ct (rdR 4 (r := ⟨5, 1, A_4, (0 + u.length), c_5, ints .u8 (([]) ++ u), false⟩) rfl) (by first | rfl | (simp; done) | omega) bh_u (by omega) (by decide)))) ?_
    rintro _ _ ⟨b2, A_18, A_20, c_19, c_21, rfl, hp_b2, hs_b2, rfl⟩
    refine wr_y rfl (y_move rfl) ?_
    refine wr_y rfl (y_extract rfl rfl) ?_
    refine wr_y rfl (y_extract rfl rfl) ?_
    refine wr_a rfl (a_alloc (sz := 3) zz28 rfl) ?_
    rintro _ _ ⟨g_25, rfl, rfl⟩
    refine wr_rows (R1 := [⟨28, 3, (some ⟨g_25, 0, none⟩), 1, 1, [.slice none 0 0, .slice none 0 0, .bool false], false⟩, ⟨3, 1, A_18, (([]) ++ u).length, c_19, ints .i64 b2, false⟩, ⟨3, 1, A_20, (([]) ++ u).length, c_21, ints .i64 (lcpV (([]) ++ u) b2), false⟩, ⟨48, 3, (some ⟨g_1, 0, none⟩), 1, 1, [.int .i64 ((0 + 1) + 1), .int .i64 ((0 + 1) + 1), .int .i64 ((0 + 1) + 1)], false⟩, ⟨3, 1, A_16, (0 + ((([]) ++ u).length)), c_17, ints .i64 (([]) ++ b1), false⟩, ⟨28, 3, (some ⟨g_13, 0, none⟩), 1, 1, [.slice A_6 ((([]) ++ u).length) c_7, .slice A_8 ((([]) ++ u).length) c_9, .bool true], false⟩, ⟨3, 1, A_6, (([]) ++ u).length, c_7, ints .i64 (upd b1 0 ((rd b1 0) + 1)), false⟩, ⟨3, 1, A_8, (([]) ++ u).length, c_9, ints .i64 (upd (lcpV (([]) ++ u) b1) 0 ((rd (lcpV (([]) ++ u) b1) 0) + 1)), false⟩, ⟨5, 1, A_4, (0 + u.length), c_5, ints .u8 (([]) ++ u), false⟩]) rfl ?_
    refine wr_n (a_storeAll (vs := [.slice A_18 ((([]) ++ u).length) c_19, .slice A_20 ((([]) ++ u).length) c_21, .bool true]) 0 rfl sz28 rfl rfl rfl (by intro v hv; simp at hv; rcases hv with rfl | rfl | rfl <;> rfl) rfl) ?_
    rintro _ _ rfl
    refine wr_rows (R1 := [⟨28, 3, (some ⟨g_25, 0, none⟩), 1, 1, [.slice A_18 ((([]) ++ u).length) c_19, .slice A_20 ((([]) ++ u).length) c_21, .bool true], false⟩, ⟨3, 1, A_18, (([]) ++ u).length, c_19, ints .i64 b2, false⟩, ⟨3, 1, A_20, (([]) ++ u).length, c_21, ints .i64 (lcpV (([]) ++ u) b2), false⟩, ⟨48, 3, (some ⟨g_1, 0, none⟩), 1, 1, [.int .i64 ((0 + 1) + 1), .int .i64 ((0 + 1) + 1), .int .i64 ((0 + 1) + 1)], false⟩, ⟨3, 1, A_16, (0 + ((([]) ++ u).length)), c_17, ints .i64 (([]) ++ b1), false⟩, ⟨28, 3, (some ⟨g_13, 0, none⟩), 1, 1, [.slice A_6 ((([]) ++ u).length) c_7, .slice A_8 ((([]) ++ u).length) c_9, .bool true], false⟩, ⟨3, 1, A_6, (([]) ++ u).length, c_7, ints .i64 (upd b1 0 ((rd b1 0) + 1)), false⟩, ⟨3, 1, A_8, (([]) ++ u).length, c_9, ints .i64 (upd (lcpV (([]) ++ u) b1) 0 ((rd (lcpV (([]) ++ u) b1) 0) + 1)), false⟩, ⟨5, 1, A_4, (0 + u.length), c_5, ints .u8 (([]) ++ u), false⟩]) rfl ?_
    refine wr_y rfl (y_assign rfl) ?_
    refine wr_nil ?_
    refine w_seq ?_
    refine w_reg ?_
    refine wr_y rfl (y_move rfl) ?_
    refine wr_y rfl (Yl.t (y_eq rfl rfl) (rfl)) ?_
    refine wr_y rfl (y_move rfl) ?_
    refine wr_yes rfl rfl ?_
    refine wr_y rfl (y_fieldAt (off := 0) (m := 0) Try.underlying28 rfl sz22 rfl rfl rfl) ?_
    refine wr_yes rfl rfl ?_
    refine wr_y rfl (y_ldIn (rdR 0 (r := ⟨28, 3, (some ⟨g_25, 0, none⟩), 1, 1, [.slice A_18 ((([]) ++ u).length) c_19, .slice A_20 ((([]) ++ u).length) c_21, .bool true], false⟩) rfl) Try.underlying22 rfl rfl rfl) ?_
    refine wr_yes rfl rfl ?_
    refine wr_y rfl (y_move rfl) ?_
    refine wr_yes rfl rfl ?_
    refine wr_a rfl (a_callF en9 rfl (Ct.quiet (fun w hw => ints4_ct ((rdr 1 rfl) w hw) ((rdr 4 rfl) w hw) (by rw [hp_b2.length_eq, iota_len]; omega)))) ?_
    rintro _ _ ⟨rfl, rfl⟩
    refine wr_setT 76 rfl (one_orderE hp_b2 hp_b1 hs_b2 hs_b1) ?_
    refine wr_y rfl (y_pickT rfl rfl) ?_
    refine wr_y rfl (y_move rfl) ?_
    refine wr_yes rfl rfl ?_
    refine wr_y rfl (y_fieldAt (off := 1) (m := 1) Try.underlying28 rfl sz22 rfl rfl rfl) ?_
    refine wr_yes rfl rfl ?_
    refine wr_y rfl (y_ldIn (rdR 0 (r := ⟨28, 3, (some ⟨g_25, 0, none⟩), 1, 1, [.slice A_18 ((([]) ++ u).length) c_19, .slice A_20 ((([]) ++ u).length) c_21, .bool true], false⟩) rfl) Try.underlying22 rfl rfl rfl) ?_
    refine wr_yes rfl rfl ?_
    refine wr_y rfl (y_len Try.underlying22 rfl) ?_
    refine wr_yes rfl rfl ?_
    refine wr_y rfl (Yl.t (y_gt rfl rfl) (by omega)) ?_
    refine wr_y rfl (y_pickT rfl rfl) ?_
    refine wr_y rfl (y_move rfl) ?_
    refine wr_yes rfl rfl ?_
    refine wr_y rfl (y_fieldAt (off := 1) (m := 1) Try.underlying28 rfl sz22 rfl rfl rfl) ?_
    refine wr_yes rfl rfl ?_
    refine wr_y rfl (y_ldIn (rdR 0 (r := ⟨28, 3, (some ⟨g_25, 0, none⟩), 1, 1, [.slice A_18 ((([]) ++ u).length) c_19, .slice A_20 ((([]) ++ u).length) c_21, .bool true], false⟩) rfl) Try.underlying22 rfl rfl rfl) ?_
    refine wr_yes rfl rfl ?_
    refine wr_y rfl (y_index1 Try.underlying22 sz3 rfl rfl (rdr 2 rfl) (by omega) (by omega)) ?_
    refine wr_yes rfl rfl ?_
    refine wr_y rfl (y_ldI Try.underlying3 rfl rfl (rdr 2 rfl) (by omega) (by omega)) ?_
    refine wr_yes rfl rfl ?_
    refine wr_y rfl (Yl.t (y_eq rfl rfl) (by rw [rd_lcpV (by omega) (by rw [hp_b2.length_eq, iota_len]; omega), if_pos rfl])) ?_
    refine wr_y rfl (y_pickT rfl rfl) ?_
    refine wr_y rfl (y_move rfl) ?_
    refine wr_yes rfl rfl ?_
    refine wr_y rfl (y_move rfl) ?_
    refine wr_yes rfl rfl ?_
    refine wr_y rfl (y_toStr Try.underlying23 Try.underlying5 Try.underlying9 rfl (rdr 8 rfl)) ?_
    refine wr_yes rfl rfl ?_
    refine wr_y rfl (y_move rfl) ?_
    refine wr_yes rfl rfl ?_
    refine wr_y rfl (y_toStr Try.underlying23 Try.underlying5 Try.underlying9 rfl (h_u.c _)) ?_
    refine wr_yes rfl rfl ?_
    refine wr_y rfl (Yl.t (y_eqL rfl rfl bh_u bh_u) (rfl)) ?_
    refine wr_y rfl (y_pickT rfl rfl) ?_
    refine wr_y rfl (y_move rfl) ?_
    refine wr_yes rfl rfl ?_
    refine wr_a rfl (a_callF en12 rfl (Ct.quiet (fun w hw => known20_ct))) ?_
    rintro _ _ ⟨rfl, rfl⟩
    refine wr_setT 99 rfl (trivial) ?_
    refine wr_y rfl (y_pickT rfl rfl) ?_
    refine wr_y rfl (y_assign rfl) ?_
    refine wr_nil ?_
    refine w_retR (R1 := []) (fun _ h => h.sel [] (by decide) rfl) ?_
    refine ⟨_, rfl, ?_⟩
    rfl

set_option maxRecDepth 100000 in
set_option maxHeartbeats 4000000 in
theorem crossSorts_ct {w : World} {A_sorters : Option Addr} {n_sorters c_sorters : Nat} {sorters : List Int} {A_u : Option Addr} {n_u c_u : Nat} {u : List Int} {runs : Int} (h_sorters : Rd w A_sorters n_sorters c_sorters 1 (ints .i64 sorters)) (h_u : Rd w A_u n_u c_u 1 (ints .u8 u)) (bh_u : ByteL u) :
    Ct Try.prog 3 #[.slice A_sorters n_sorters c_sorters, .slice A_u n_u c_u, .int .i64 runs] w.heap.size w [] (fun v R' => v = .bool true) := by
  obtain rfl := h_sorters.lenI
  obtain rfl := h_u.lenI
  refine fn1 Try.func3 rfl rfl rfl ?_
  have m_sorters := h_sorters.max
  have m_u := h_u.max
  refine w_seq ?_
  refine w_reg ?_
  refine wr_y rfl (y_assign rfl) ?_
  refine wr_nil ?_
  refine w_seq ?_
  refine w_seq ?_
  refine w_reg ?_
  refine wr_y rfl (y_move rfl) ?_
  refine wr_y rfl (y_len Try.underlying23 rfl) ?_
  refine wr_y rfl (y_gt rfl rfl) ?_
  refine wr_y rfl (y_move rfl) ?_
  refine wr_mid 4 [(0, .slice A_sorters sorters.length c_sorters), (1, .slice A_u u.length c_u), (2, .int .i64 runs), (25, .bool (decide ((60 < ((u.length : Nat) : Int)) ∨ (20 < ((sorters.length : Nat) : Int)))))] [] ?_ ?_
  ·
    refine wr_case 21 rfl (fun hc1 => ?_) (fun hc1 => ?_)
    ·
      refine wr_no rfl rfl rfl rfl ?_
      refine wr_no rfl rfl rfl rfl ?_
      refine wr_no rfl rfl rfl rfl ?_
      refine wr_y rfl (y_pickT rfl rfl) ?_
      refine wr_nil ?_
      exact ⟨(Sub.cons rfl (Sub.cons rfl (Sub.cons rfl (Sub.to rfl (mb_t (by first | omega | exact ⟨fun h => ⟨(by assumption), h⟩, fun h => h.2⟩ | exact .inl (by assumption) | exact ⟨.inr, fun h => h.resolve_left (by assumption)⟩ | exact ⟨fun h => h.resolve_left (by assumption), .inr⟩ | simp [*])) Sub.nil)))), fun _ h => h⟩
    ·
      refine wr_yes rfl rfl ?_
      refine wr_y rfl (y_move rfl) ?_
      refine wr_yes rfl rfl ?_
      refine wr_y rfl (y_len Try.underlying22 rfl) ?_
      refine wr_yes rfl rfl ?_
      refine wr_y rfl (y_gt rfl rfl) ?_
      refine wr_y rfl (y_pickF rfl rfl) ?_
      refine wr_nil ?_
      exact ⟨(Sub.cons rfl (Sub.cons rfl (Sub.cons rfl (Sub.to rfl (mb (by first | omega | exact ⟨fun h => ⟨(by assumption), h⟩, fun h => h.2⟩ | exact .inl (by assumption) | exact ⟨.inr, fun h => h.resolve_left (by assumption)⟩ | exact ⟨fun h => h.resolve_left (by assumption), .inr⟩ | simp [*])) Sub.nil)))), fun _ h => h⟩
  refine wr_y rfl (y_move rfl) ?_
  refine wr_mid 3 [(0, .slice A_sorters sorters.length c_sorters), (1, .slice A_u u.length c_u), (2, .int .i64 runs), (29, .bool (decide (((60 < ((u.length : Nat) : Int)) ∨ (20 < ((sorters.length : Nat) : Int))) ∨ (runs < 0))))] [] ?_ ?_
  ·
    refine wr_case 26 rfl (fun hc2 => ?_) (fun hc2 => ?_)
    ·
      refine wr_no rfl rfl rfl rfl ?_
      refine wr_no rfl rfl rfl rfl ?_
      refine wr_y rfl (y_pickT rfl rfl) ?_
      refine wr_nil ?_
      exact ⟨(Sub.cons rfl (Sub.cons rfl (Sub.cons rfl (Sub.to rfl (mb_t (by first | omega | exact ⟨fun h => ⟨(by assumption), h⟩, fun h => h.2⟩ | exact .inl (by assumption) | exact ⟨.inr, fun h => h.resolve_left (by assumption)⟩ | exact ⟨fun h => h.resolve_left (by assumption), .inr⟩ | simp [*])) Sub.nil)))), fun _ h => h⟩
    ·
      refine wr_yes rfl rfl ?_
      refine wr_y rfl (y_move rfl) ?_
      refine wr_yes rfl rfl ?_
      refine wr_y rfl (y_lt rfl rfl) ?_
      refine wr_y rfl (y_pickF rfl rfl) ?_
      refine wr_nil ?_
      exact ⟨(Sub.cons rfl (Sub.cons rfl (Sub.cons rfl (Sub.to rfl (mb (by first | omega | exact ⟨fun h => ⟨(by assumption), h⟩, fun h => h.2⟩ | exact .inl (by assumption) | exact ⟨.inr, fun h => h.resolve_left (by assumption)⟩ | exact ⟨fun h => h.resolve_left (by assumption), .inr⟩ | simp [*])) Sub.nil)))), fun _ h => h⟩
  refine wr_y rfl (y_move rfl) ?_
  refine wr_mid 3 [(0, .slice A_sorters sorters.length c_sorters), (1, .slice A_u u.length c_u), (2, .int .i64 runs), (33, .bool (decide ((((60 < ((u.length : Nat) : Int)) ∨ (20 < ((sorters.length : Nat) : Int))) ∨ (runs < 0)) ∨ (5 < runs))))] [] ?_ ?_
  ·
    refine wr_case 30 rfl (fun hc3 => ?_) (fun hc3 => ?_)
    ·
      refine wr_no rfl rfl rfl rfl ?_
      refine wr_no rfl rfl rfl rfl ?_
      refine wr_y rfl (y_pickT rfl rfl) ?_
      refine wr_nil ?_
      exact ⟨(Sub.cons rfl (Sub.cons rfl (Sub.cons rfl (Sub.to rfl (mb_t (by first | omega | exact ⟨fun h => ⟨(by assumption), h⟩, fun h => h.2⟩ | exact .inl (by assumption) | exact ⟨.inr, fun h => h.resolve_left (by assumption)⟩ | exact ⟨fun h => h.resolve_left (by assumption), .inr⟩ | simp [*])) Sub.nil)))), fun _ h => h⟩
    ·
      refine wr_yes rfl rfl ?_
      refine wr_y rfl (y_move rfl) ?_
      refine wr_yes rfl rfl ?_
      refine wr_y rfl (y_gt rfl rfl) ?_
      refine wr_y rfl (y_pickF rfl rfl) ?_
      refine wr_nil ?_
      exact ⟨(Sub.cons rfl (Sub.cons rfl (Sub.cons rfl (Sub.to rfl (mb (by first | omega | exact ⟨fun h => ⟨(by assumption), h⟩, fun h => h.2⟩ | exact .inl (by assumption) | exact ⟨.inr, fun h => h.resolve_left (by assumption)⟩ | exact ⟨fun h => h.resolve_left (by assumption), .inr⟩ | simp [*])) Sub.nil)))), fun _ h => h⟩
  refine wr_nil ?_
  refine w_if rfl (fun hc4 => ?_) (fun hc4 => ?_)
  ·
    refine w_seq ?_
    refine w_reg ?_
    refine wr_y rfl (y_assign rfl) ?_
    refine wr_nil ?_
    refine w_ret ?_
    refine ⟨_, rfl, ?_⟩
    rfl
  ·
    refine w_skip ?_
    refine w_seq ?_
    refine w_reg ?_
    refine wr_a rfl (a_callF en6 rfl (Ct.fresh (fun w hw => crossNew_ct))) ?_
    rintro _ _ ⟨_, rfl, g_1, rfl, rfl⟩
    refine wr_y rfl (y_assign rfl) ?_
    refine wr_nil ?_
    refine w_seq ?_
    refine w_seq ?_
    refine w_reg ?_
    refine wr_y rfl (y_move rfl) ?_
    refine wr_y rfl (y_ptrEq Try.underlying24 rfl rfl) ?_
    refine wr_nil ?_
    refine w_false rfl ?_
    refine w_skip ?_
    refine w_seq ?_
    refine w_reg ?_
    refine wr_y rfl (y_move rfl) ?_
    refine wr_y rfl (y_move rfl) ?_
    refine wr_y rfl (y_move rfl) ?_
    refine wr_y rfl (y_build (v := .agg #[.int .i64 runs, .int .i64 runs, .int .i64 runs]) rfl (fun w => by kernel_rfl)) ?_
    refine wr_a rfl (a_alloc (sz := 3) zz26 rfl) ?_
    rintro _ _ ⟨g_2, rfl, rfl⟩
    refine wr_rows (R1 := [⟨26, 3, (some ⟨g_2, 0, none⟩), 1, 1, [.int .i64 0, .int .i64 0, .int .i64 0], false⟩, ⟨48, 3, (some ⟨g_1, 0, none⟩), 1, 1, [.int .i64 0, .int .i64 0, .int .i64 0], false⟩]) rfl ?_
    refine wr_n (a_storeAll (vs := [.int .i64 runs, .int .i64 runs, .int .i64 runs]) 0 rfl sz26 rfl rfl rfl (by intro v hv; simp at hv; rcases hv with rfl | rfl | rfl <;> rfl) rfl) ?_
    rintro _ _ rfl
    refine wr_rows (R1 := [⟨26, 3, (some ⟨g_2, 0, none⟩), 1, 1, [.int .i64 runs, .int .i64 runs, .int .i64 runs], false⟩, ⟨48, 3, (some ⟨g_1, 0, none⟩), 1, 1, [.int .i64 0, .int .i64 0, .int .i64 0], false⟩]) rfl ?_
    refine wr_nil ?_
    refine w_seq ?_
    refine w_seq ?_
    refine w_reg ?_
    refine wr_y rfl (y_assign rfl) ?_
    refine wr_nil ?_
    refine w_block ?_
    refine w_loop1 (fun (i : Int) => [(0, .slice A_sorters sorters.length c_sorters), (1, .slice A_u u.length c_u), (2, .int .i64 runs), (7, .pointer (some ⟨g_1, 0, none⟩)), (8, .pointer (some ⟨g_2, 0, none⟩)), (9, .int .i64 i)]) (fun (i : Int) => [⟨26, 3, (some ⟨g_2, 0, none⟩), 1, 1, [.int .i64 runs, .int .i64 runs, .int .i64 runs], false⟩, ⟨48, 3, (some ⟨g_1, 0, none⟩), 1, 1, [.int .i64 i, .int .i64 i, .int .i64 i], false⟩]) (fun (i : Int) => (0 ≤ i) ∧ (i ≤ runs)) (fun (i : Int) => (runs - i).toNat) ?_ ?_
    ·
      exact ⟨0, ⟨(by omega), (by omega)⟩, (Sub.cons rfl (Sub.cons rfl (Sub.cons rfl (Sub.cons rfl (Sub.cons rfl (Sub.cons rfl Sub.nil)))))), fun _ h => h⟩
    intro i ⟨hi0, hi1⟩
    refine w_seq ?_
    refine w_seq ?_
    refine w_reg ?_
    refine wr_y rfl (y_move rfl) ?_
    refine wr_y rfl (y_move rfl) ?_
    refine wr_y rfl (y_lt rfl rfl) ?_
    refine wr_nil ?_
    refine w_if rfl (fun hc5 => ?_) (fun hc5 => ?_)
    ·
      refine w_skip ?_
      refine w_seq ?_
      refine w_block ?_
      refine w_reg ?_
      refine wr_y rfl (y_move rfl) ?_
      refine wr_y rfl (y_move rfl) ?_
      refine wr_a rfl (a_callF en7 rfl (Ct.sub (R1 := [⟨48, 3, (some ⟨g_1, 0, none⟩), 1, 1, [.int .i64 i, .int .i64 i, .int .i64 i], false⟩, ⟨26, 3, (some ⟨g_2, 0, none⟩), 1, 1, [.int .i64 runs, .int .i64 runs, .int .i64 runs], false⟩]) (fun _ h => h.sel [1, 0] (by decide) rfl) (crossRun_ct (h_u.c _) (by first | rfl | (simp; done) | omega) bh_u (by omega) (by omega)))) ?_
      rintro _ _ ⟨b_3, A_4, A_6, c_5, c_7, rfl, hp_b_3, hs_b_3, rfl⟩
      refine wr_nil ?_
      refine w_reg ?_
      refine wr_y rfl (y_move rfl) ?_
      refine wr_y rfl (y_addI rfl rfl (by omega)) ?_
      refine wr_y rfl (y_assign rfl) ?_
      refine wr_nil ?_
      exact ⟨i + 1, ⟨(by omega), (by omega)⟩, (by omega), (Sub.cons rfl (Sub.cons rfl (Sub.cons rfl (Sub.cons rfl (Sub.cons rfl (Sub.cons rfl Sub.nil)))))), fun _ h => h.sel [3, 2] (by decide) rfl⟩
    ·
      refine w_exit ?_
      refine w_seq ?_
      refine w_seq ?_
      refine w_reg ?_
      refine wr_y rfl (y_assign rfl) ?_
      refine wr_nil ?_
      refine w_block ?_
      refine w_loop5 (fun (k : Int) (c0 : Int) (c1 : Int) (c2 : Int) (Wt : List Int) => [(0, .slice A_sorters sorters.length c_sorters), (1, .slice A_u u.length c_u), (7, .pointer (some ⟨g_1, 0, none⟩)), (8, .pointer (some ⟨g_2, 0, none⟩)), (10, .int .i64 k)]) (fun (k : Int) (c0 : Int) (c1 : Int) (c2 : Int) (Wt : List Int) => [⟨26, 3, (some ⟨g_2, 0, none⟩), 1, 1, ints .i64 Wt, false⟩, ⟨48, 3, (some ⟨g_1, 0, none⟩), 1, 1, [.int .i64 c0, .int .i64 c1, .int .i64 c2], false⟩]) (fun (k : Int) (c0 : Int) (c1 : Int) (c2 : Int) (Wt : List Int) => (0 ≤ k) ∧ (k ≤ sorters.length) ∧ (Wt = [c0, c1, c2]) ∧ ((0 ≤ c0 ∧ c0 ≤ 5 + k) ∧ (0 ≤ c1 ∧ c1 ≤ 5 + k) ∧ (0 ≤ c2 ∧ c2 ≤ 5 + k))) (fun (k : Int) (c0 : Int) (c1 : Int) (c2 : Int) (Wt : List Int) => (sorters.length - k).toNat) ?_ ?_
      ·
        exact ⟨0, i, i, i, [runs, runs, runs], ⟨(by omega), (by omega), (by rw [show runs = i by omega]), (by omega)⟩, (Sub.cons rfl (Sub.cons rfl (Sub.cons rfl (Sub.cons rfl (Sub.cons rfl Sub.nil))))), fun _ h => h⟩
      intro k c0 c1 c2 Wt ⟨hk0, hk1, hW, hc⟩
      refine w_seq ?_
      refine w_seq ?_
      refine w_reg ?_
      refine wr_y rfl (y_move rfl) ?_
      refine wr_y rfl (y_move rfl) ?_
      refine wr_y rfl (y_len Try.underlying22 rfl) ?_
      refine wr_y rfl (y_lt rfl rfl) ?_
      refine wr_nil ?_
      refine w_if rfl (fun hc6 => ?_) (fun hc6 => ?_)
      ·
        refine w_skip ?_
        refine w_seq ?_
        refine w_block ?_
        refine w_seq ?_
        refine w_reg ?_
        refine wr_y rfl (y_move rfl) ?_
        refine wr_y rfl (y_move rfl) ?_
        refine wr_y rfl (y_move rfl) ?_
        refine wr_y rfl (y_index1 Try.underlying22 sz3 rfl rfl (h_sorters.c _) (by omega) (by omega)) ?_
        refine wr_y rfl (y_ldI Try.underlying3 rfl rfl (h_sorters.c _) (by omega) (by omega)) ?_
        refine wr_y rfl (y_move rfl) ?_
        refine wr_a rfl (a_callF en8 rfl (Ct.sub (R1 := [⟨48, 3, (some ⟨g_1, 0, none⟩), 1, 1, [.int .i64 c0, .int .i64 c1, .int .i64 c2], false⟩, ⟨26, 3, (some ⟨g_2, 0, none⟩), 1, 1, ints .i64 Wt, false⟩]) (fun _ h => h.sel [1, 0] (by decide) rfl) (crossSortAny_ct (h_u.c _) (by first | rfl | (simp; done) | omega) bh_u (by omega) (by omega)))) ?_
        rintro _ _ ⟨b1, A_10, c_11, e1, d0, d1, d2, rfl, hso, rfl⟩
        refine wr_y rfl (y_move rfl) ?_
        refine wr_y rfl (y_extract rfl rfl) ?_
        refine wr_y rfl (y_extract rfl rfl) ?_
        refine wr_y rfl (y_assign rfl) ?_
        refine wr_y rfl (y_assign rfl) ?_
        refine wr_nil ?_
        refine w_seq ?_
        refine w_seq ?_
        refine w_reg ?_
        refine wr_y rfl (y_move rfl) ?_
        refine wr_y rfl (y_move rfl) ?_
        refine wr_y rfl (y_index1 Try.underlying22 sz3 rfl rfl (h_sorters.c _) (by omega) (by omega)) ?_
        refine wr_y rfl (y_ldI Try.underlying3 rfl rfl (h_sorters.c _) (by omega) (by omega)) ?_
        refine wr_y rfl (y_lt rfl rfl) ?_
        refine wr_y rfl (y_move rfl) ?_
        refine wr_mid 6 [(0, .slice A_sorters sorters.length c_sorters), (1, .slice A_u u.length c_u), (7, .pointer (some ⟨g_1, 0, none⟩)), (8, .pointer (some ⟨g_2, 0, none⟩)), (10, .int .i64 k), (11, .slice A_10 b1.length c_11), (12, .int .i64 e1), (76, .bool (decide (((rd sorters k) < 0) ∨ (2 < (rd sorters k)))))] [⟨3, 1, A_10, b1.length, c_11, ints .i64 b1, false⟩, ⟨48, 3, (some ⟨g_1, 0, none⟩), 1, 1, [.int .i64 d0, .int .i64 d1, .int .i64 d2], false⟩, ⟨26, 3, (some ⟨g_2, 0, none⟩), 1, 1, ints .i64 Wt, false⟩] ?_ ?_
        ·
          refine wr_case 70 rfl (fun hc7 => ?_) (fun hc7 => ?_)
          ·
            refine wr_no rfl rfl rfl rfl ?_
            refine wr_no rfl rfl rfl rfl ?_
            refine wr_no rfl rfl rfl rfl ?_
            refine wr_no rfl rfl rfl rfl ?_
            refine wr_no rfl rfl rfl rfl ?_
            refine wr_y rfl (y_pickT rfl rfl) ?_
            refine wr_nil ?_
            exact ⟨(Sub.cons rfl (Sub.cons rfl (Sub.cons rfl (Sub.cons rfl (Sub.cons rfl (Sub.cons rfl (Sub.cons rfl (Sub.to rfl (mb_t (by first | omega | exact ⟨fun h => ⟨(by assumption), h⟩, fun h => h.2⟩ | exact .inl (by assumption) | exact ⟨.inr, fun h => h.resolve_left (by assumption)⟩ | exact ⟨fun h => h.resolve_left (by assumption), .inr⟩ | simp [*])) Sub.nil)))))))), fun _ h => h⟩
          ·
            refine wr_yes rfl rfl ?_
            refine wr_y rfl (y_move rfl) ?_
            refine wr_yes rfl rfl ?_
            refine wr_y rfl (y_move rfl) ?_
            refine wr_yes rfl rfl ?_
            refine wr_y rfl (y_index1 Try.underlying22 sz3 rfl rfl (h_sorters.c _) (by omega) (by omega)) ?_
            refine wr_yes rfl rfl ?_
            refine wr_y rfl (y_ldI Try.underlying3 rfl rfl (h_sorters.c _) (by omega) (by omega)) ?_
            refine wr_yes rfl rfl ?_
            refine wr_y rfl (y_gt rfl rfl) ?_
            refine wr_y rfl (y_pickF rfl rfl) ?_
            refine wr_nil ?_
            exact ⟨(Sub.cons rfl (Sub.cons rfl (Sub.cons rfl (Sub.cons rfl (Sub.cons rfl (Sub.cons rfl (Sub.cons rfl (Sub.to rfl (mb (by first | omega | exact ⟨fun h => ⟨(by assumption), h⟩, fun h => h.2⟩ | exact .inl (by assumption) | exact ⟨.inr, fun h => h.resolve_left (by assumption)⟩ | exact ⟨fun h => h.resolve_left (by assumption), .inr⟩ | simp [*])) Sub.nil)))))))), fun _ h => h⟩
        refine wr_nil ?_
        refine w_if rfl (fun hc8 => ?_) (fun hc8 => ?_)
        ·
          have hso2 : e1 = 1 ∧ b1 = [] ∧ d0 = c0 ∧ d1 = c1 ∧ d2 = c2 := by
            rcases hso with h | h
            · exact h.2
            · exact absurd hc8 (by omega)
          have hst0 : Wt = [d0, d1, d2] := by rw [hW, hso2.2.2.1, hso2.2.2.2.1, hso2.2.2.2.2]
          refine w_seq ?_
          refine w_seq ?_
          refine w_reg ?_
          refine wr_y rfl (y_move rfl) ?_
          refine wr_y rfl (Yl.f (y_ne rfl rfl) (by omega)) ?_
          refine wr_y rfl (y_move rfl) ?_
          refine wr_yes rfl rfl ?_
          refine wr_y rfl (y_move rfl) ?_
          refine wr_yes rfl rfl ?_
          refine wr_y rfl (y_len Try.underlying22 rfl) ?_
          refine wr_yes rfl rfl ?_
          refine wr_y rfl (Yl.f (y_ne rfl rfl) (by rw [hso2.2.1]; decide)) ?_
          refine wr_y rfl (y_pickF rfl rfl) ?_
          refine wr_nil ?_
          refine w_false rfl ?_
          refine w_skip ?_
          refine w_exit ?_
          refine w_reg ?_
          refine wr_y rfl (y_move rfl) ?_
          refine wr_y rfl (y_addI rfl rfl (by omega)) ?_
          refine wr_y rfl (y_assign rfl) ?_
          refine wr_nil ?_
          exact ⟨k + 1, d0, d1, d2, Wt, ⟨(by omega), (by omega), (hst0), (by omega)⟩, (by omega), (Sub.cons rfl (Sub.cons rfl (Sub.cons rfl (Sub.cons rfl (Sub.cons rfl Sub.nil))))), fun _ h => h.sel [2, 1] (by decide) rfl⟩
        ·
          have hso3 : e1 = 0 ∧ b1.Perm (iota u.length) ∧ b1.Pairwise (ordE u) ∧ [d0, d1, d2] = upd [c0, c1, c2] (rd sorters k) (rd [c0, c1, c2] (rd sorters k) + 1) ∧ (d0 ≤ c0 + 1 ∧ 0 ≤ d0) ∧ (d1 ≤ c1 + 1 ∧ 0 ≤ d1) ∧ (d2 ≤ c2 + 1 ∧ 0 ≤ d2) := by
            rcases hso with h | h
            · exact absurd h.1 (by omega)
            · exact h.2
          have hst1 : upd Wt (rd sorters k) (rd Wt (rd sorters k) + 1) = [d0, d1, d2] := by rw [hso3.2.2.2.1, hW]
          have hwb : 0 ≤ rd Wt (rd sorters k) ∧ rd Wt (rd sorters k) ≤ 5 + k := by
            rw [hW]
            rcases (by omega : rd sorters k = 0 ∨ rd sorters k = 1 ∨ rd sorters k = 2) with h | h | h <;> rw [h]
            · exact hc.1
            · exact hc.2.1
            · exact hc.2.2
          refine w_skip ?_
          refine w_seq ?_
          refine w_reg ?_
          refine wr_y rfl (y_move rfl) ?_
          refine wr_y rfl (y_move rfl) ?_
          refine wr_y rfl (y_index1 Try.underlying22 sz3 rfl rfl (h_sorters.c _) (by omega) (by omega)) ?_
          refine wr_y rfl (y_ldI Try.underlying3 rfl rfl (h_sorters.c _) (by omega) (by omega)) ?_
          refine wr_y rfl (y_indexL Try.underlying26 sz3 rfl rfl (rdr 2 rfl) (by first | omega | (rw [hW]; show _ < 3; omega)) (by first | omega | (rw [hW]; show _ < 3; omega)) (by first | omega | (rw [hW]; show _ < 3; omega))) ?_
          refine wr_y rfl (y_ldL Try.underlying3 rfl rfl (rdr 2 rfl) (by first | omega | (rw [hW]; show _ < 3; omega)) (by first | omega | (rw [hW]; show _ < 3; omega))) ?_
          refine wr_y rfl (y_addI rfl rfl (by omega)) ?_
          refine wr_y rfl (y_indexL Try.underlying26 sz3 rfl rfl (rdr 2 rfl) (by first | omega | (rw [hW]; show _ < 3; omega)) (by first | omega | (rw [hW]; show _ < 3; omega)) (by first | omega | (rw [hW]; show _ < 3; omega))) ?_
          refine wr_n (a_storeL 2 rfl sz3 rfl rfl (by first | omega | (rw [hW]; show _ < 3; omega)) (by first | omega | (rw [hW]; show _ < 3; omega))) ?_
          rintro _ _ rfl
          refine wr_rows (R1 := [⟨3, 1, A_10, b1.length, c_11, ints .i64 b1, false⟩, ⟨48, 3, (some ⟨g_1, 0, none⟩), 1, 1, [.int .i64 d0, .int .i64 d1, .int .i64 d2], false⟩, ⟨26, 3, (some ⟨g_2, 0, none⟩), 1, 1, ints .i64 (upd Wt (rd sorters k) ((rd Wt (rd sorters k)) + 1)), false⟩]) rfl ?_
          refine wr_nil ?_
          refine w_seq ?_
          refine w_reg ?_
          refine wr_y rfl (y_move rfl) ?_
          refine wr_y rfl (Yl.f (y_ne rfl rfl) (by omega)) ?_
          refine wr_y rfl (y_move rfl) ?_
          refine wr_yes rfl rfl ?_
          refine wr_y rfl (y_move rfl) ?_
          refine wr_yes rfl rfl ?_
          refine wr_y rfl (y_move rfl) ?_
          refine wr_yes rfl rfl ?_
          refine wr_a rfl (a_callF en10 rfl (Ct.fresh (fun w hw => bytes13_ct ((h_u.c _) w hw) bh_u (by omega)))) ?_
          rintro _ _ ⟨_, rfl, a1, A_13, c_14, rfl, hp_a1, hs_a1, rfl⟩
          refine wr_yes rfl rfl ?_
          refine wr_a rfl (a_callF en9 rfl (Ct.quiet (fun w hw => ints4_ct ((rdr 1 rfl) w hw) ((rdr 0 rfl) w hw) (by rw [hso3.2.1.length_eq, iota_len]; omega)))) ?_
          rintro _ _ ⟨rfl, rfl⟩
          refine wr_setT 98 rfl (one_orderE hso3.2.1 hp_a1 hso3.2.2.1 hs_a1) ?_
          refine wr_yes rfl rfl ?_
          refine wr_y rfl (y_not rfl) ?_
          refine wr_y rfl (y_pickF rfl rfl) ?_
          refine wr_nil ?_
          refine w_false rfl ?_
          refine w_skip ?_
          refine w_reg ?_
          refine wr_y rfl (y_move rfl) ?_
          refine wr_y rfl (y_addI rfl rfl (by omega)) ?_
          refine wr_y rfl (y_assign rfl) ?_
          refine wr_nil ?_
          exact ⟨k + 1, d0, d1, d2, (upd Wt (rd sorters k) (rd Wt (rd sorters k) + 1)), ⟨(by omega), (by omega), (hst1), (by omega)⟩, (by omega), (Sub.cons rfl (Sub.cons rfl (Sub.cons rfl (Sub.cons rfl (Sub.cons rfl Sub.nil))))), fun _ h => h.sel [3, 2] (by decide) rfl⟩
      ·
        subst hW
        refine w_sub (R1 := [⟨26, 3, (some ⟨g_2, 0, none⟩), 1, 1, [.int .i64 c0, .int .i64 c1, .int .i64 c2], false⟩, ⟨48, 3, (some ⟨g_1, 0, none⟩), 1, 1, [.int .i64 c0, .int .i64 c1, .int .i64 c2], false⟩]) (Sub.refl _) (fun _ h => h) ?_
        refine w_exit ?_
        refine w_seq ?_
        refine w_reg ?_
        refine wr_y rfl (y_assign rfl) ?_
        refine wr_nil ?_
        refine w_seq ?_
        refine w_reg ?_
        refine wr_y rfl (y_move rfl) ?_
        refine wr_y rfl (y_move rfl) ?_
        refine wr_a rfl (a_callF en8 rfl (Ct.quiet (fun w hw => crossSortNil_ct ((h_u.c _) w hw)))) ?_
        rintro _ _ ⟨rfl, rfl⟩
        refine wr_y rfl (y_move rfl) ?_
        refine wr_y rfl (y_extract rfl rfl) ?_
        refine wr_y rfl (y_extract rfl rfl) ?_
        refine wr_y rfl (y_assign rfl) ?_
        refine wr_y rfl (y_assign rfl) ?_
        refine wr_nil ?_
        refine w_seq ?_
        refine w_reg ?_
        refine wr_y rfl (y_move rfl) ?_
        refine wr_y rfl (y_move rfl) ?_
        refine wr_a rfl (a_callF en7 rfl (Ct.quiet (fun w hw => crossRunNil_ct ((h_u.c _) w hw)))) ?_
        rintro _ _ ⟨rfl, rfl⟩
        refine wr_y rfl (y_move rfl) ?_
        refine wr_y rfl (y_extract rfl rfl) ?_
        refine wr_y rfl (y_extract rfl rfl) ?_
        refine wr_a rfl (a_alloc (sz := 3) zz28 rfl) ?_
        rintro _ _ ⟨g_17, rfl, rfl⟩
        refine wr_rows (R1 := [⟨28, 3, (some ⟨g_17, 0, none⟩), 1, 1, [.slice none 0 0, .slice none 0 0, .bool false], false⟩, ⟨26, 3, (some ⟨g_2, 0, none⟩), 1, 1, [.int .i64 c0, .int .i64 c1, .int .i64 c2], false⟩, ⟨48, 3, (some ⟨g_1, 0, none⟩), 1, 1, [.int .i64 c0, .int .i64 c1, .int .i64 c2], false⟩]) rfl ?_
        refine wr_n (a_storeAll (vs := [.slice none 0 0, .slice none 0 0, .bool false]) 0 rfl sz28 rfl rfl rfl (by intro v hv; simp at hv; rcases hv with rfl | rfl | rfl <;> rfl) rfl) ?_
        rintro _ _ rfl
        refine wr_rows (R1 := [⟨28, 3, (some ⟨g_17, 0, none⟩), 1, 1, [.slice none 0 0, .slice none 0 0, .bool false], false⟩, ⟨26, 3, (some ⟨g_2, 0, none⟩), 1, 1, [.int .i64 c0, .int .i64 c1, .int .i64 c2], false⟩, ⟨48, 3, (some ⟨g_1, 0, none⟩), 1, 1, [.int .i64 c0, .int .i64 c1, .int .i64 c2], false⟩]) rfl ?_
        refine wr_y rfl (y_assign rfl) ?_
        refine wr_nil ?_
        refine w_seq ?_
        refine w_regd mixed ?_
        refine wd_y 0 rfl (by kernel_rfl) rfl (y_move rfl) ?_
        refine wd_y 2 rfl (by kernel_rfl) rfl (y_ldInA (vs := [.int .i64 c0, .int .i64 c1, .int .i64 c2]) (rdR 1 (r := ⟨26, 3, (some ⟨g_2, 0, none⟩), 1, 1, [.int .i64 c0, .int .i64 c1, .int .i64 c2], false⟩) rfl) Try.underlying26 rfl sz26 rfl rfl (Nat.le_of_ble_eq_true rfl) rfl) ?_
        refine wd_a 1 rfl (by kernel_rfl) rfl (a_callF en11 rfl (Ct.at 2 rfl (crossRuns_ct))) ?_
        rintro _ _ ⟨rfl, rfl⟩
        refine ⟨.inr fun _ h => h, ?_⟩
        refine wd_rows (R1 := [⟨28, 3, (some ⟨g_17, 0, none⟩), 1, 1, [.slice none 0 0, .slice none 0 0, .bool false], false⟩, ⟨26, 3, (some ⟨g_2, 0, none⟩), 1, 1, [.int .i64 c0, .int .i64 c1, .int .i64 c2], false⟩, ⟨48, 3, (some ⟨g_1, 0, none⟩), 1, 1, [.int .i64 c0, .int .i64 c1, .int .i64 c2], false⟩]) rfl ?_
        refine wd_y 3 rfl (by kernel_rfl) rfl (Yl.t (y_eqTri Try.underlying26 Try.underlying3 (fun w => by kernel_rfl) (by kernel_rfl) rfl rfl) (rfl)) ?_
        refine wd_y 4 rfl (by kernel_rfl) rfl (y_move rfl) ?_
        refine wd_yg 5 rfl (by kernel_rfl) rfl rfl rfl (y_move rfl) ?_
        refine wd_yg 6 rfl (by kernel_rfl) rfl rfl rfl (Yl.t (y_eq rfl rfl) (rfl)) ?_
        refine wd_y 7 rfl (by kernel_rfl) rfl (y_pickT rfl rfl) ?_
        refine wd_y 8 rfl (by kernel_rfl) rfl (y_move rfl) ?_
        refine wd_yg 9 rfl (by kernel_rfl) rfl rfl rfl (y_move rfl) ?_
        refine wd_yg 10 rfl (by kernel_rfl) rfl rfl rfl (Yl.t (y_eq rfl rfl) (rfl)) ?_
        refine wd_y 11 rfl (by kernel_rfl) rfl (y_pickT rfl rfl) ?_
        refine wd_y 12 rfl (by kernel_rfl) rfl (y_move rfl) ?_
        refine wd_yg 13 rfl (by kernel_rfl) rfl rfl rfl (y_move rfl) ?_
        refine wd_yg 15 rfl (by kernel_rfl) rfl rfl rfl (y_build (v := .agg #[.int .i64 0, .int .i64 0, .int .i64 0]) rfl (fun w => by kernel_rfl)) ?_
        refine wd_ag 14 rfl (by kernel_rfl) rfl rfl rfl (a_callF en11 rfl (Ct.quiet (fun w hw => crossRunsNil_ct))) ?_
        rintro _ _ ⟨rfl, rfl⟩
        refine ⟨.inr fun _ h => h, ?_⟩
        refine wd_yg 16 rfl (by kernel_rfl) rfl rfl rfl (Yl.t (y_eqTri Try.underlying26 Try.underlying3 (fun w => by kernel_rfl) (by kernel_rfl) rfl rfl) (rfl)) ?_
        refine wd_y 17 rfl (by kernel_rfl) rfl (y_pickT rfl rfl) ?_
        refine wd_y 18 rfl (by kernel_rfl) rfl (y_move rfl) ?_
        refine wd_ag 19 rfl (by kernel_rfl) rfl rfl rfl (a_callF en12 rfl (Ct.quiet (fun w hw => known20_ct))) ?_
        rintro _ _ ⟨rfl, rfl⟩
        refine ⟨.inr fun _ h => h, ?_⟩
        refine wd_as (v := .bool true) (congrArg Value.bool (decide_eq_true (trivial))) ?_
        refine wd_y 20 rfl (by kernel_rfl) rfl (y_pickT rfl rfl) ?_
        refine wd_y 21 rfl (by kernel_rfl) rfl (y_assign rfl) ?_
        refine wd_nil (by kernel_rfl) ?_
        refine w_retR (R1 := []) (fun _ h => h.sel [] (by decide) rfl) ?_
        refine ⟨_, rfl, ?_⟩
        rfl

end Go.Proofs.Ytipnciohgbjjhaa

