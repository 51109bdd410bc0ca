/- Several texts of our own in one: K3, K5, K6. -/
import Derived.Test.YtipnciohgbjjhaaGreatD5
/-! ## K3 -/
namespace Go.Proofs.YtipnciohgbjjhaaGreat
open Go Go.Eng Go.Pure
set_option linter.unusedVariables false
set_option maxRecDepth 100000 in
theorem add64_0_ct {B : Nat} {w0 : World} {R : List Row} {g : Nat} {a0 a1 a2 : Int} (hr : 0 ≤ a0 ∧ a0 < 1000000) :
    Ct Tryz.prog 127 #[.pointer (some ⟨g, 0, none⟩), .int .i64 1] B w0 (⟨114, 3, (some ⟨g, 0, none⟩), 1, 1, [.int .i64 a0, .int .i64 a1, .int .i64 a2], false⟩ :: R) (fun v R' => v = .int .i64 (a0 + 1) ∧ R' = ⟨114, 3, (some ⟨g, 0, none⟩), 1, 1, [.int .i64 (a0 + 1), .int .i64 a1, .int .i64 a2], false⟩ :: R) := by
  refine fn1 Tryz.func127 rfl rfl rfl ?_
  refine w_seq ?_
  refine w_reg ?_
  refine wr_y rfl (y_assign rfl) ?_
  refine wr_nil ?_
  refine w_seq ?_
  refine w_reg ?_
  refine wr_y rfl (y_move rfl) ?_
  refine wr_y rfl (y_nilCheck rfl) ?_
  refine wr_y rfl (y_fieldAt (off := 0) (m := 0) Tryz.underlying111 rfl sz2 rfl rfl rfl) ?_
  refine wr_y rfl (y_move rfl) ?_
  refine wr_a rfl (a_ext rfl (fun w hw => ⟨_, run_call_add (P := Tryz.prog) Tryz.func203 (by kernel_rfl) (by kernel_rfl) (by kernel_rfl) .i64 (by kernel_rfl) (y := 1) (s := a0 + 1) (hw.cellAt 0 (r := ⟨114, 3, (some ⟨g, 0, none⟩), 1, 1, [.int .i64 a0, .int .i64 a1, .int .i64 a2], false⟩) (j := 0) rfl rfl rfl) (hw.openAt 0 (r := ⟨114, 3, (some ⟨g, 0, none⟩), 1, 1, [.int .i64 a0, .int .i64 a1, .int .i64 a2], false⟩) 0 rfl rfl rfl) (by have : IntKind.i64.wrap (a0 + 1) = a0 + 1 := (by rw [IntKind.wrap_i64]; omega); simp [Op.intArith, this]), hw.set1 0 (r := ⟨114, 3, (some ⟨g, 0, none⟩), 1, 1, [.int .i64 a0, .int .i64 a1, .int .i64 a2], false⟩) (j := 0) (v := .int .i64 (a0 + 1)) rfl rfl rfl⟩)) ?_
  rintro _ _ ⟨rfl, rfl⟩
  refine wr_rows (R1 := (⟨114, 3, (some ⟨g, 0, none⟩), 1, 1, [.int .i64 (a0 + 1), .int .i64 a1, .int .i64 a2], false⟩ :: R)) rfl ?_
  refine wr_y rfl (y_assign rfl) ?_
  refine wr_nil ?_
  refine w_ret ?_
  refine ⟨_, rfl, ?_⟩
  exact ⟨rfl, rfl⟩

set_option maxRecDepth 100000 in
theorem add64_1_ct {B : Nat} {w0 : World} {R : List Row} {g : Nat} {a0 a1 a2 : Int} (hr : 0 ≤ a1 ∧ a1 < 1000000) :
    Ct Tryz.prog 127 #[.pointer (some ⟨g, 1, none⟩), .int .i64 1] B w0 (⟨114, 3, (some ⟨g, 0, none⟩), 1, 1, [.int .i64 a0, .int .i64 a1, .int .i64 a2], false⟩ :: R) (fun v R' => v = .int .i64 (a1 + 1) ∧ R' = ⟨114, 3, (some ⟨g, 0, none⟩), 1, 1, [.int .i64 a0, .int .i64 (a1 + 1), .int .i64 a2], false⟩ :: R) := by
  refine fn1 Tryz.func127 rfl rfl rfl ?_
  refine w_seq ?_
  refine w_reg ?_
  refine wr_y rfl (y_assign rfl) ?_
  refine wr_nil ?_
  refine w_seq ?_
  refine w_reg ?_
  refine wr_y rfl (y_move rfl) ?_
  refine wr_y rfl (y_nilCheck rfl) ?_
  refine wr_y rfl (y_fieldAt (off := 0) (m := 1) Tryz.underlying111 rfl sz2 rfl rfl rfl) ?_
  refine wr_y rfl (y_move rfl) ?_
  refine wr_a rfl (a_ext rfl (fun w hw => ⟨_, run_call_add (P := Tryz.prog) Tryz.func203 (by kernel_rfl) (by kernel_rfl) (by kernel_rfl) .i64 (by kernel_rfl) (y := 1) (s := a1 + 1) (hw.cellAt 0 (r := ⟨114, 3, (some ⟨g, 0, none⟩), 1, 1, [.int .i64 a0, .int .i64 a1, .int .i64 a2], false⟩) (j := 1) rfl rfl rfl) (hw.openAt 0 (r := ⟨114, 3, (some ⟨g, 0, none⟩), 1, 1, [.int .i64 a0, .int .i64 a1, .int .i64 a2], false⟩) 1 rfl rfl rfl) (by have : IntKind.i64.wrap (a1 + 1) = a1 + 1 := (by rw [IntKind.wrap_i64]; omega); simp [Op.intArith, this]), hw.set1 0 (r := ⟨114, 3, (some ⟨g, 0, none⟩), 1, 1, [.int .i64 a0, .int .i64 a1, .int .i64 a2], false⟩) (j := 1) (v := .int .i64 (a1 + 1)) rfl rfl rfl⟩)) ?_
  rintro _ _ ⟨rfl, rfl⟩
  refine wr_rows (R1 := (⟨114, 3, (some ⟨g, 0, none⟩), 1, 1, [.int .i64 a0, .int .i64 (a1 + 1), .int .i64 a2], false⟩ :: R)) rfl ?_
  refine wr_y rfl (y_assign rfl) ?_
  refine wr_nil ?_
  refine w_ret ?_
  refine ⟨_, rfl, ?_⟩
  exact ⟨rfl, rfl⟩

set_option maxRecDepth 100000 in
theorem add64_2_ct {B : Nat} {w0 : World} {R : List Row} {g : Nat} {a0 a1 a2 : Int} (hr : 0 ≤ a2 ∧ a2 < 1000000) :
    Ct Tryz.prog 127 #[.pointer (some ⟨g, 2, none⟩), .int .i64 1] B w0 (⟨114, 3, (some ⟨g, 0, none⟩), 1, 1, [.int .i64 a0, .int .i64 a1, .int .i64 a2], false⟩ :: R) (fun v R' => v = .int .i64 (a2 + 1) ∧ R' = ⟨114, 3, (some ⟨g, 0, none⟩), 1, 1, [.int .i64 a0, .int .i64 a1, .int .i64 (a2 + 1)], false⟩ :: R) := by
  refine fn1 Tryz.func127 rfl rfl rfl ?_
  refine w_seq ?_
  refine w_reg ?_
  refine wr_y rfl (y_assign rfl) ?_
  refine wr_nil ?_
  refine w_seq ?_
  refine w_reg ?_
  refine wr_y rfl (y_move rfl) ?_
  refine wr_y rfl (y_nilCheck rfl) ?_
  refine wr_y rfl (y_fieldAt (off := 0) (m := 2) Tryz.underlying111 rfl sz2 rfl rfl rfl) ?_
  refine wr_y rfl (y_move rfl) ?_
  refine wr_a rfl (a_ext rfl (fun w hw => ⟨_, run_call_add (P := Tryz.prog) Tryz.func203 (by kernel_rfl) (by kernel_rfl) (by kernel_rfl) .i64 (by kernel_rfl) (y := 1) (s := a2 + 1) (hw.cellAt 0 (r := ⟨114, 3, (some ⟨g, 0, none⟩), 1, 1, [.int .i64 a0, .int .i64 a1, .int .i64 a2], false⟩) (j := 2) rfl rfl rfl) (hw.openAt 0 (r := ⟨114, 3, (some ⟨g, 0, none⟩), 1, 1, [.int .i64 a0, .int .i64 a1, .int .i64 a2], false⟩) 2 rfl rfl rfl) (by have : IntKind.i64.wrap (a2 + 1) = a2 + 1 := (by rw [IntKind.wrap_i64]; omega); simp [Op.intArith, this]), hw.set1 0 (r := ⟨114, 3, (some ⟨g, 0, none⟩), 1, 1, [.int .i64 a0, .int .i64 a1, .int .i64 a2], false⟩) (j := 2) (v := .int .i64 (a2 + 1)) rfl rfl rfl⟩)) ?_
  rintro _ _ ⟨rfl, rfl⟩
  refine wr_rows (R1 := (⟨114, 3, (some ⟨g, 0, none⟩), 1, 1, [.int .i64 a0, .int .i64 a1, .int .i64 (a2 + 1)], false⟩ :: R)) rfl ?_
  refine wr_y rfl (y_assign rfl) ?_
  refine wr_nil ?_
  refine w_ret ?_
  refine ⟨_, rfl, ?_⟩
  exact ⟨rfl, rfl⟩

set_option maxRecDepth 100000 in
theorem crossNew_ct {w : World}  :
    Ct Tryz.prog 26 #[] w.heap.size w [] (fun v R' => ∃ g, v = .pointer (some ⟨g, 0, none⟩) ∧ R' = [⟨114, 3, (some ⟨g, 0, none⟩), 1, 1, [.int .i64 0, .int .i64 0, .int .i64 0], false⟩]) := by
  refine fn1 Tryz.func26 rfl rfl rfl ?_
  refine w_seq ?_
  refine w_reg ?_
  refine wr_y rfl (y_assign rfl) ?_
  refine wr_nil ?_
  refine w_seq ?_
  refine w_reg ?_
  refine wr_y rfl (y_build (v := .agg #[.int .i64 0, .int .i64 0, .int .i64 0]) rfl (fun w => by kernel_rfl)) ?_
  refine wr_a rfl (a_box (sz := 3) rfl rfl) ?_
  rintro _ _ ⟨g_1, rfl, rfl⟩
  refine wr_rows (R1 := [⟨114, 3, (some ⟨g_1, 0, none⟩), 1, 1, [.int .i64 0, .int .i64 0, .int .i64 0], false⟩]) rfl ?_
  refine wr_y rfl (y_assign rfl) ?_
  refine wr_nil ?_
  refine w_retR (R1 := [⟨114, 3, (some ⟨g_1, 0, none⟩), 1, 1, [.int .i64 0, .int .i64 0, .int .i64 0], false⟩]) (fun _ h => h.sel [0] (by decide) rfl) ?_
  refine ⟨_, rfl, ?_⟩
  exact ⟨_, rfl, rfl⟩

set_option maxRecDepth 100000 in
theorem crossSort0_ct {B : Nat} {w0 : World} {R : List Row} {g : Nat} {a0 a1 a2 : Int} {A_u : Option Addr} {n_u c_u : Nat} {u : List Int} (h_u : RdC B w0 R A_u n_u c_u 1 (ints .u8 u)) (hn_u : n_u = u.length) (bh_u : ByteL u) (hN : u.length ≤ 100000) (ha : 0 ≤ a0 ∧ a0 < 1000000) :
    Ct Tryz.prog 68 #[.pointer (some ⟨g, 0, none⟩), .int .i64 0, .slice A_u n_u c_u] B w0 (⟨114, 3, (some ⟨g, 0, none⟩), 1, 1, [.int .i64 a0, .int .i64 a1, .int .i64 a2], false⟩ :: R) (fun v R' => ∃ (b : List Int) (A : Option Addr) (c : Nat), v = .tuple #[.slice A u.length c, .int .i64 0] ∧ b.Perm (iota u.length) ∧ b.Pairwise (ordE u) ∧ R' = ⟨3, 1, A, u.length, c, ints .i64 b, false⟩ :: ⟨114, 3, (some ⟨g, 0, none⟩), 1, 1, [.int .i64 (a0 + 1), .int .i64 a1, .int .i64 a2], false⟩ :: R) := by
  subst hn_u
  refine fn2 Tryz.func68 rfl rfl rfl ?_
  refine w_seq ?_
  refine w_reg ?_
  refine wr_y rfl (y_assign rfl) ?_
  refine wr_y rfl (y_assign rfl) ?_
  refine wr_nil ?_
  refine w_seq ?_
  refine w_seq ?_
  refine w_reg ?_
  refine wr_y rfl (y_move rfl) ?_
  refine wr_y rfl (y_ptrEq Tryz.underlying45 rfl rfl) ?_
  refine wr_y rfl (y_move rfl) ?_
  refine wr_yes rfl rfl ?_
  refine wr_y rfl (y_move rfl) ?_
  refine wr_yes rfl rfl ?_
  refine wr_y rfl (Yl.f (y_lt rfl rfl) (by decide)) ?_
  refine wr_y rfl (y_pickF rfl rfl) ?_
  refine wr_y rfl (y_move rfl) ?_
  refine wr_yes rfl rfl ?_
  refine wr_y rfl (y_move rfl) ?_
  refine wr_yes rfl rfl ?_
  refine wr_y rfl (Yl.f (y_ge rfl rfl) (by decide)) ?_
  refine wr_y rfl (y_pickF rfl rfl) ?_
  refine wr_nil ?_
  refine w_false rfl ?_
  refine w_skip ?_
  refine w_seq ?_
  refine w_reg ?_
  refine wr_y rfl (y_build (v := .agg #[.func (.func 124) #[] #[], .func (.func 125) #[] #[], .func (.func 126) #[] #[]]) rfl (fun w => by kernel_rfl)) ?_
  refine wr_y rfl (y_move rfl) ?_
  refine wr_y rfl (y_ix (v := .func (.func 124) #[] #[]) rfl rfl (fun w => by kernel_rfl)) ?_
  refine wr_y rfl (y_assign rfl) ?_
  refine wr_nil ?_
  refine w_seq ?_
  refine w_reg ?_
  refine wr_y rfl (y_move rfl) ?_
  refine wr_y rfl (y_move rfl) ?_
  refine wr_a rfl (a_call en124 rfl rfl (Ct.fresh (fun w hw => sbytes_ct ((RdC.right h_u [_]) w hw) bh_u hN))) ?_
  rintro _ _ ⟨_, rfl, b1, A_1, c_2, rfl, hp_b1, hs_b1, rfl⟩
  refine wr_y rfl (y_move rfl) ?_
  refine wr_y rfl (y_extract rfl rfl) ?_
  refine wr_y rfl (y_extract rfl rfl) ?_
  refine wr_y rfl (y_assign rfl) ?_
  refine wr_y rfl (y_assign rfl) ?_
  refine wr_nil ?_
  refine w_seq ?_
  refine w_seq ?_
  refine w_reg ?_
  refine wr_y rfl (y_move rfl) ?_
  refine wr_y rfl (Yl.t (y_eq rfl rfl) (by decide)) ?_
  refine wr_nil ?_
  refine w_true rfl ?_
  refine w_reg ?_
  refine wr_y rfl (y_move rfl) ?_
  refine wr_y rfl (y_move rfl) ?_
  refine wr_y rfl (y_nilCheck rfl) ?_
  refine wr_y rfl (y_fieldAt (off := 0) (m := 0) Tryz.underlying114 rfl sz112 rfl rfl rfl) ?_
  refine wr_y rfl (y_indexIn (q := 0) (rdR 1 (r := ⟨114, 3, (some ⟨g, 0, none⟩), 1, 1, [.int .i64 a0, .int .i64 a1, .int .i64 a2], false⟩) rfl) Tryz.underlying112 sz111 rfl rfl (Nat.le_of_ble_eq_true rfl) (by decide) (by decide) rfl) ?_
  refine wr_a rfl (a_callF en127 rfl (Ct.at 1 rfl (add64_0_ct (by omega)))) ?_
  rintro _ _ ⟨rfl, rfl⟩
  refine wr_rows (R1 := (⟨3, 1, A_1, u.length, c_2, ints .i64 b1, false⟩ :: ⟨114, 3, (some ⟨g, 0, none⟩), 1, 1, [.int .i64 (a0 + 1), .int .i64 a1, .int .i64 a2], false⟩ :: R)) rfl ?_
  refine wr_nil ?_
  refine w_seq ?_
  refine w_reg ?_
  refine wr_y rfl (y_move rfl) ?_
  refine wr_y rfl (y_move rfl) ?_
  refine wr_y rfl (y_assign rfl) ?_
  refine wr_y rfl (y_assign rfl) ?_
  refine wr_nil ?_
  refine w_retR (R1 := (⟨3, 1, A_1, u.length, c_2, ints .i64 b1, false⟩ :: ⟨114, 3, (some ⟨g, 0, none⟩), 1, 1, [.int .i64 (a0 + 1), .int .i64 a1, .int .i64 a2], false⟩ :: R)) (fun _ h => h) ?_
  refine ⟨_, _, rfl, rfl, ?_⟩
  exact ⟨b1, _, _, rfl, hp_b1, hs_b1, rfl⟩

set_option maxRecDepth 100000 in
theorem crossSort1_ct {B : Nat} {w0 : World} {R : List Row} {g : Nat} {a0 a1 a2 : Int} {A_u : Option Addr} {n_u c_u : Nat} {u : List Int} (h_u : RdC B w0 R A_u n_u c_u 1 (ints .u8 u)) (hn_u : n_u = u.length) (bh_u : ByteL u) (hN : u.length ≤ 100000) (ha : 0 ≤ a1 ∧ a1 < 1000000) :
    Ct Tryz.prog 68 #[.pointer (some ⟨g, 0, none⟩), .int .i64 1, .slice A_u n_u c_u] B w0 (⟨114, 3, (some ⟨g, 0, none⟩), 1, 1, [.int .i64 a0, .int .i64 a1, .int .i64 a2], false⟩ :: R) (fun v R' => ∃ (b : List Int) (A : Option Addr) (c : Nat), v = .tuple #[.slice A u.length c, .int .i64 0] ∧ b.Perm (iota u.length) ∧ b.Pairwise (ordE u) ∧ R' = ⟨3, 1, A, u.length, c, ints .i64 b, false⟩ :: ⟨114, 3, (some ⟨g, 0, none⟩), 1, 1, [.int .i64 a0, .int .i64 (a1 + 1), .int .i64 a2], false⟩ :: R) := by
  subst hn_u
  refine fn2 Tryz.func68 rfl rfl rfl ?_
  refine w_seq ?_
  refine w_reg ?_
  refine wr_y rfl (y_assign rfl) ?_
  refine wr_y rfl (y_assign rfl) ?_
  refine wr_nil ?_
  refine w_seq ?_
  refine w_seq ?_
  refine w_reg ?_
  refine wr_y rfl (y_move rfl) ?_
  refine wr_y rfl (y_ptrEq Tryz.underlying45 rfl rfl) ?_
  refine wr_y rfl (y_move rfl) ?_
  refine wr_yes rfl rfl ?_
  refine wr_y rfl (y_move rfl) ?_
  refine wr_yes rfl rfl ?_
  refine wr_y rfl (Yl.f (y_lt rfl rfl) (by decide)) ?_
  refine wr_y rfl (y_pickF rfl rfl) ?_
  refine wr_y rfl (y_move rfl) ?_
  refine wr_yes rfl rfl ?_
  refine wr_y rfl (y_move rfl) ?_
  refine wr_yes rfl rfl ?_
  refine wr_y rfl (Yl.f (y_ge rfl rfl) (by decide)) ?_
  refine wr_y rfl (y_pickF rfl rfl) ?_
  refine wr_nil ?_
  refine w_false rfl ?_
  refine w_skip ?_
  refine w_seq ?_
  refine w_reg ?_
  refine wr_y rfl (y_build (v := .agg #[.func (.func 124) #[] #[], .func (.func 125) #[] #[], .func (.func 126) #[] #[]]) rfl (fun w => by kernel_rfl)) ?_
  refine wr_y rfl (y_move rfl) ?_
  refine wr_y rfl (y_ix (v := .func (.func 125) #[] #[]) rfl rfl (fun w => by kernel_rfl)) ?_
  refine wr_y rfl (y_assign rfl) ?_
  refine wr_nil ?_
  refine w_seq ?_
  refine w_reg ?_
  refine wr_y rfl (y_move rfl) ?_
  refine wr_y rfl (y_move rfl) ?_
  refine wr_a rfl (a_call en125 rfl rfl (Ct.fresh (fun w hw => kbytes_ct ((RdC.right h_u [_]) w hw) bh_u hN))) ?_
  rintro _ _ ⟨_, rfl, b1, A_1, c_2, rfl, hp_b1, hs_b1, rfl⟩
  refine wr_y rfl (y_move rfl) ?_
  refine wr_y rfl (y_extract rfl rfl) ?_
  refine wr_y rfl (y_extract rfl rfl) ?_
  refine wr_y rfl (y_assign rfl) ?_
  refine wr_y rfl (y_assign rfl) ?_
  refine wr_nil ?_
  refine w_seq ?_
  refine w_seq ?_
  refine w_reg ?_
  refine wr_y rfl (y_move rfl) ?_
  refine wr_y rfl (Yl.t (y_eq rfl rfl) (by decide)) ?_
  refine wr_nil ?_
  refine w_true rfl ?_
  refine w_reg ?_
  refine wr_y rfl (y_move rfl) ?_
  refine wr_y rfl (y_move rfl) ?_
  refine wr_y rfl (y_nilCheck rfl) ?_
  refine wr_y rfl (y_fieldAt (off := 0) (m := 0) Tryz.underlying114 rfl sz112 rfl rfl rfl) ?_
  refine wr_y rfl (y_indexIn (q := 1) (rdR 1 (r := ⟨114, 3, (some ⟨g, 0, none⟩), 1, 1, [.int .i64 a0, .int .i64 a1, .int .i64 a2], false⟩) rfl) Tryz.underlying112 sz111 rfl rfl (Nat.le_of_ble_eq_true rfl) (by decide) (by decide) rfl) ?_
  refine wr_a rfl (a_callF en127 rfl (Ct.at 1 rfl (add64_1_ct (by omega)))) ?_
  rintro _ _ ⟨rfl, rfl⟩
  refine wr_rows (R1 := (⟨3, 1, A_1, u.length, c_2, ints .i64 b1, false⟩ :: ⟨114, 3, (some ⟨g, 0, none⟩), 1, 1, [.int .i64 a0, .int .i64 (a1 + 1), .int .i64 a2], false⟩ :: R)) rfl ?_
  refine wr_nil ?_
  refine w_seq ?_
  refine w_reg ?_
  refine wr_y rfl (y_move rfl) ?_
  refine wr_y rfl (y_move rfl) ?_
  refine wr_y rfl (y_assign rfl) ?_
  refine wr_y rfl (y_assign rfl) ?_
  refine wr_nil ?_
  refine w_retR (R1 := (⟨3, 1, A_1, u.length, c_2, ints .i64 b1, false⟩ :: ⟨114, 3, (some ⟨g, 0, none⟩), 1, 1, [.int .i64 a0, .int .i64 (a1 + 1), .int .i64 a2], false⟩ :: R)) (fun _ h => h) ?_
  refine ⟨_, _, rfl, rfl, ?_⟩
  exact ⟨b1, _, _, rfl, hp_b1, hs_b1, rfl⟩

set_option maxRecDepth 100000 in
theorem crossSort2_ct {B : Nat} {w0 : World} {R : List Row} {g : Nat} {a0 a1 a2 : Int} {A_u : Option Addr} {n_u c_u : Nat} {u : List Int} (h_u : RdC B w0 R A_u n_u c_u 1 (ints .u8 u)) (hn_u : n_u = u.length) (bh_u : ByteL u) (hN : u.length ≤ 100000) (ha : 0 ≤ a2 ∧ a2 < 1000000) :
    Ct Tryz.prog 68 #[.pointer (some ⟨g, 0, none⟩), .int .i64 2, .slice A_u n_u c_u] B w0 (⟨114, 3, (some ⟨g, 0, none⟩), 1, 1, [.int .i64 a0, .int .i64 a1, .int .i64 a2], false⟩ :: R) (fun v R' => ∃ (b : List Int) (A : Option Addr) (c : Nat), v = .tuple #[.slice A u.length c, .int .i64 0] ∧ b.Perm (iota u.length) ∧ b.Pairwise (ordE u) ∧ R' = ⟨3, 1, A, u.length, c, ints .i64 b, false⟩ :: ⟨114, 3, (some ⟨g, 0, none⟩), 1, 1, [.int .i64 a0, .int .i64 a1, .int .i64 (a2 + 1)], false⟩ :: R) := by
  subst hn_u
  refine fn2 Tryz.func68 rfl rfl rfl ?_
  refine w_seq ?_
  refine w_reg ?_
  refine wr_y rfl (y_assign rfl) ?_
  refine wr_y rfl (y_assign rfl) ?_
  refine wr_nil ?_
  refine w_seq ?_
  refine w_seq ?_
  refine w_reg ?_
  refine wr_y rfl (y_move rfl) ?_
  refine wr_y rfl (y_ptrEq Tryz.underlying45 rfl rfl) ?_
  refine wr_y rfl (y_move rfl) ?_
  refine wr_yes rfl rfl ?_
  refine wr_y rfl (y_move rfl) ?_
  refine wr_yes rfl rfl ?_
  refine wr_y rfl (Yl.f (y_lt rfl rfl) (by decide)) ?_
  refine wr_y rfl (y_pickF rfl rfl) ?_
  refine wr_y rfl (y_move rfl) ?_
  refine wr_yes rfl rfl ?_
  refine wr_y rfl (y_move rfl) ?_
  refine wr_yes rfl rfl ?_
  refine wr_y rfl (Yl.f (y_ge rfl rfl) (by decide)) ?_
  refine wr_y rfl (y_pickF rfl rfl) ?_
  refine wr_nil ?_
  refine w_false rfl ?_
  refine w_skip ?_
  refine w_seq ?_
  refine w_reg ?_
  refine wr_y rfl (y_build (v := .agg #[.func (.func 124) #[] #[], .func (.func 125) #[] #[], .func (.func 126) #[] #[]]) rfl (fun w => by kernel_rfl)) ?_
  refine wr_y rfl (y_move rfl) ?_
  refine wr_y rfl (y_ix (v := .func (.func 126) #[] #[]) rfl rfl (fun w => by kernel_rfl)) ?_
  refine wr_y rfl (y_assign rfl) ?_
  refine wr_nil ?_
  refine w_seq ?_
  refine w_reg ?_
  refine wr_y rfl (y_move rfl) ?_
  refine wr_y rfl (y_move rfl) ?_
  refine wr_a rfl (a_call en126 rfl rfl (Ct.fresh (fun w hw => bytes15_ct ((RdC.right h_u [_]) w hw) bh_u hN))) ?_
  rintro _ _ ⟨_, rfl, o1, A_1, c_2, rfl, hl_o1, hq_o1, rfl⟩
  refine wr_y rfl (y_move rfl) ?_
  refine wr_y rfl (y_extract rfl rfl) ?_
  refine wr_y rfl (y_extract rfl rfl) ?_
  refine wr_y rfl (y_assign rfl) ?_
  refine wr_y rfl (y_assign rfl) ?_
  refine wr_nil ?_
  refine w_seq ?_
  refine w_seq ?_
  refine w_reg ?_
  refine wr_y rfl (y_move rfl) ?_
  refine wr_y rfl (Yl.t (y_eq rfl rfl) (by decide)) ?_
  refine wr_nil ?_
  refine w_true rfl ?_
  refine w_reg ?_
  refine wr_y rfl (y_move rfl) ?_
  refine wr_y rfl (y_move rfl) ?_
  refine wr_y rfl (y_nilCheck rfl) ?_
  refine wr_y rfl (y_fieldAt (off := 0) (m := 0) Tryz.underlying114 rfl sz112 rfl rfl rfl) ?_
  refine wr_y rfl (y_indexIn (q := 2) (rdR 1 (r := ⟨114, 3, (some ⟨g, 0, none⟩), 1, 1, [.int .i64 a0, .int .i64 a1, .int .i64 a2], false⟩) rfl) Tryz.underlying112 sz111 rfl rfl (Nat.le_of_ble_eq_true rfl) (by decide) (by decide) rfl) ?_
  refine wr_a rfl (a_callF en127 rfl (Ct.at 1 rfl (add64_2_ct (by omega)))) ?_
  rintro _ _ ⟨rfl, rfl⟩
  refine wr_rows (R1 := (⟨3, 1, A_1, u.length, c_2, ints .i64 o1, false⟩ :: ⟨114, 3, (some ⟨g, 0, none⟩), 1, 1, [.int .i64 a0, .int .i64 a1, .int .i64 (a2 + 1)], false⟩ :: R)) rfl ?_
  refine wr_nil ?_
  refine w_seq ?_
  refine w_reg ?_
  refine wr_y rfl (y_move rfl) ?_
  refine wr_y rfl (y_move rfl) ?_
  refine wr_y rfl (y_assign rfl) ?_
  refine wr_y rfl (y_assign rfl) ?_
  refine wr_nil ?_
  refine w_retR (R1 := (⟨3, 1, A_1, u.length, c_2, ints .i64 o1, false⟩ :: ⟨114, 3, (some ⟨g, 0, none⟩), 1, 1, [.int .i64 a0, .int .i64 a1, .int .i64 (a2 + 1)], false⟩ :: R)) (fun _ h => h) ?_
  refine ⟨_, _, rfl, rfl, ?_⟩
  obtain ⟨b, hb, hs⟩ := order_exists u
  obtain rfl := places hb hs hl_o1 hq_o1
  exact ⟨o1, _, _, rfl, hb, hs, rfl⟩

set_option maxRecDepth 100000 in
theorem crossRun_ct {B : Nat} {w0 : World} {R : List Row} {g : Nat} {a0 a1 a2 : Int} {A_u : Option Addr} {n_u c_u : Nat} {u : List Int} (h_u : RdC B w0 R A_u n_u c_u 1 (ints .u8 u)) (hn_u : n_u = u.length) (bh_u : ByteL u) (hN : u.length ≤ 100000) (ha : (0 ≤ a0 ∧ a0 < 1000000) ∧ (0 ≤ a1 ∧ a1 < 1000000) ∧ (0 ≤ a2 ∧ a2 < 1000000)) :
    Ct Tryz.prog 27 #[.pointer (some ⟨g, 0, none⟩), .slice A_u n_u c_u] B w0 (⟨114, 3, (some ⟨g, 0, none⟩), 1, 1, [.int .i64 a0, .int .i64 a1, .int .i64 a2], false⟩ :: R) (fun v R' => ∃ (b : List Int) (A A2 : Option Addr) (c c2 : Nat), v = .tuple #[.agg #[.slice A u.length c, .slice A2 u.length c2, .bool true], .int .i64 0] ∧ b.Perm (iota u.length) ∧ b.Pairwise (ordE u) ∧ R' = ⟨3, 1, A, u.length, c, ints .i64 b, false⟩ :: ⟨3, 1, A2, u.length, c2, ints .i64 (lcpV u b), false⟩ :: ⟨114, 3, (some ⟨g, 0, none⟩), 1, 1, [.int .i64 (a0 + 1), .int .i64 (a1 + 1), .int .i64 (a2 + 1)], false⟩ :: R) := by
  subst hn_u
  refine fnCT Tryz.func27 rfl rfl rfl Tryz.underlying48 rfl sz48 ?_
  refine w_seq ?_
  refine w_reg ?_
  refine wr_a rfl (a_alloc (sz := 3) zz48 rfl) ?_
  rintro _ _ ⟨g_1, rfl, rfl⟩
  refine wr_rows (R1 := (⟨48, 3, (some ⟨g_1, 0, none⟩), 1, 1, [.slice none 0 0, .slice none 0 0, .bool false], false⟩ :: ⟨114, 3, (some ⟨g, 0, none⟩), 1, 1, [.int .i64 a0, .int .i64 a1, .int .i64 a2], false⟩ :: R)) rfl ?_
  refine wr_y rfl (y_assign rfl) ?_
  refine wr_nil ?_
  refine w_seq ?_
  refine w_reg ?_
  refine wr_a rfl (a_alloc (sz := 3) zz115 rfl) ?_
  rintro _ _ ⟨g_2, rfl, rfl⟩
  refine wr_rows (R1 := (⟨115, 3, (some ⟨g_2, 0, none⟩), 1, 1, [.slice none 0 0, .slice none 0 0, .slice none 0 0], false⟩ :: ⟨48, 3, (some ⟨g_1, 0, none⟩), 1, 1, [.slice none 0 0, .slice none 0 0, .bool false], false⟩ :: ⟨114, 3, (some ⟨g, 0, none⟩), 1, 1, [.int .i64 a0, .int .i64 a1, .int .i64 a2], false⟩ :: R)) rfl ?_
  refine wr_nil ?_
  refine w_seq ?_
  refine w_seq ?_
  refine w_reg ?_
  refine wr_y rfl (y_move rfl) ?_
  refine wr_nil ?_
  refine w_block ?_
  refine w_rounds 4 ?_
  refine w_round ?_
  refine w_seq ?_
  refine w_reg ?_
  refine wr_y rfl (Yl.t (y_lt rfl rfl) (by decide)) ?_
  refine wr_nil ?_
  refine w_seq ?_
  refine w_true rfl ?_
  refine w_skip ?_
  refine w_seq ?_
  refine w_block ?_
  refine w_seq ?_
  refine w_reg ?_
  refine wr_y rfl (y_move rfl) ?_
  refine wr_y rfl (y_assign rfl) ?_
  refine wr_nil ?_
  refine w_seq ?_
  refine w_reg ?_
  refine wr_y rfl (y_move rfl) ?_
  refine wr_y rfl (y_move rfl) ?_
  refine wr_y rfl (y_move rfl) ?_
  refine wr_a rfl (a_callF en68 rfl (Ct.sub (R1 := (⟨114, 3, (some ⟨g, 0, none⟩), 1, 1, [.int .i64 a0, .int .i64 a1, .int .i64 a2], false⟩ :: ⟨115, 3, (some ⟨g_2, 0, none⟩), 1, 1, [.slice none 0 0, .slice none 0 0, .slice none 0 0], false⟩ :: ⟨48, 3, (some ⟨g_1, 0, none⟩), 1, 1, [.slice none 0 0, .slice none 0 0, .bool false], false⟩ :: R)) (fun _ h => h.selR (F := [_, _, _]) (F' := [_, _, _]) [2, 0, 1] (by decide) rfl) (crossSort0_ct (RdC.right h_u [_, _]) (by first | rfl | (simp; done) | omega) bh_u hN (by omega)))) ?_
  rintro _ _ ⟨b0, A_3, c_4, rfl, hp_b0, hs_b0, rfl⟩
  refine wr_y rfl (y_move rfl) ?_
  refine wr_y rfl (y_extract rfl rfl) ?_
  refine wr_y rfl (y_extract rfl rfl) ?_
  refine wr_y rfl (y_assign rfl) ?_
  refine wr_y rfl (y_assign rfl) ?_
  refine wr_nil ?_
  refine w_seq ?_
  refine w_seq ?_
  refine w_reg ?_
  refine wr_y rfl (y_move rfl) ?_
  refine wr_y rfl (Yl.f (y_ne rfl rfl) (by decide)) ?_
  refine wr_nil ?_
  refine w_false rfl ?_
  refine w_skip ?_
  refine w_reg ?_
  refine wr_y rfl (y_move rfl) ?_
  refine wr_y rfl (y_move rfl) ?_
  refine wr_y rfl (y_indexIn (q := 0) (rdR 2 (r := ⟨115, 3, (some ⟨g_2, 0, none⟩), 1, 1, [.slice none 0 0, .slice none 0 0, .slice none 0 0], false⟩) rfl) Tryz.underlying115 sz24 rfl rfl (Nat.le_of_ble_eq_true rfl) (by decide) (by decide) rfl) ?_
  refine wr_n (a_storeAt 2 rfl rfl rfl sz24 rfl rfl rfl rfl (Nat.le_of_ble_eq_true rfl)) ?_
  rintro _ _ rfl
  refine wr_rows (R1 := (⟨3, 1, A_3, u.length, c_4, ints .i64 b0, false⟩ :: ⟨114, 3, (some ⟨g, 0, none⟩), 1, 1, [.int .i64 (a0 + 1), .int .i64 a1, .int .i64 a2], false⟩ :: ⟨115, 3, (some ⟨g_2, 0, none⟩), 1, 1, [.slice A_3 u.length c_4, .slice none 0 0, .slice none 0 0], false⟩ :: ⟨48, 3, (some ⟨g_1, 0, none⟩), 1, 1, [.slice none 0 0, .slice none 0 0, .bool false], false⟩ :: R)) rfl ?_
  refine wr_nil ?_
  refine w_reg ?_
  refine wr_y rfl (Yl.is (y_addI rfl rfl (by omega)) rfl) ?_
  refine wr_y rfl (y_move rfl) ?_
  refine wr_nil ?_
  refine w_round ?_
  refine w_seq ?_
  refine w_reg ?_
  refine wr_y rfl (Yl.t (y_lt rfl rfl) (by decide)) ?_
  refine wr_nil ?_
  refine w_seq ?_
  refine w_true rfl ?_
  refine w_skip ?_
  refine w_seq ?_
  refine w_block ?_
  refine w_seq ?_
  refine w_reg ?_
  refine wr_y rfl (y_move rfl) ?_
  refine wr_y rfl (y_assign rfl) ?_
  refine wr_nil ?_
  refine w_seq ?_
  refine w_reg ?_
  refine wr_y rfl (y_move rfl) ?_
  refine wr_y rfl (y_move rfl) ?_
  refine wr_y rfl (y_move rfl) ?_
  refine wr_a rfl (a_callF en68 rfl (Ct.sub (R1 := (⟨114, 3, (some ⟨g, 0, none⟩), 1, 1, [.int .i64 (a0 + 1), .int .i64 a1, .int .i64 a2], false⟩ :: ⟨3, 1, A_3, u.length, c_4, ints .i64 b0, false⟩ :: ⟨115, 3, (some ⟨g_2, 0, none⟩), 1, 1, [.slice A_3 u.length c_4, .slice none 0 0, .slice none 0 0], false⟩ :: ⟨48, 3, (some ⟨g_1, 0, none⟩), 1, 1, [.slice none 0 0, .slice none 0 0, .bool false], false⟩ :: R)) (fun _ h => h.selR (F := [_, _, _, _]) (F' := [_, _, _, _]) [1, 0, 2, 3] (by decide) rfl) (crossSort1_ct (RdC.right h_u [_, _, _]) (by first | rfl | (simp; done) | omega) bh_u hN (by omega)))) ?_
  rintro _ _ ⟨b1, A_6, c_7, rfl, hp_b1, hs_b1, rfl⟩
  refine wr_y rfl (y_move rfl) ?_
  refine wr_y rfl (y_extract rfl rfl) ?_
  refine wr_y rfl (y_extract rfl rfl) ?_
  refine wr_y rfl (y_assign rfl) ?_
  refine wr_y rfl (y_assign rfl) ?_
  refine wr_nil ?_
  refine w_seq ?_
  refine w_seq ?_
  refine w_reg ?_
  refine wr_y rfl (y_move rfl) ?_
  refine wr_y rfl (Yl.f (y_ne rfl rfl) (by decide)) ?_
  refine wr_nil ?_
  refine w_false rfl ?_
  refine w_skip ?_
  refine w_reg ?_
  refine wr_y rfl (y_move rfl) ?_
  refine wr_y rfl (y_move rfl) ?_
  refine wr_y rfl (y_indexIn (q := 1) (rdR 3 (r := ⟨115, 3, (some ⟨g_2, 0, none⟩), 1, 1, [.slice A_3 u.length c_4, .slice none 0 0, .slice none 0 0], false⟩) rfl) Tryz.underlying115 sz24 rfl rfl (Nat.le_of_ble_eq_true rfl) (by decide) (by decide) rfl) ?_
  refine wr_n (a_storeAt 3 rfl rfl rfl sz24 rfl rfl rfl rfl (Nat.le_of_ble_eq_true rfl)) ?_
  rintro _ _ rfl
  refine wr_rows (R1 := (⟨3, 1, A_6, u.length, c_7, ints .i64 b1, false⟩ :: ⟨114, 3, (some ⟨g, 0, none⟩), 1, 1, [.int .i64 (a0 + 1), .int .i64 (a1 + 1), .int .i64 a2], false⟩ :: ⟨3, 1, A_3, u.length, c_4, ints .i64 b0, false⟩ :: ⟨115, 3, (some ⟨g_2, 0, none⟩), 1, 1, [.slice A_3 u.length c_4, .slice A_6 u.length c_7, .slice none 0 0], false⟩ :: ⟨48, 3, (some ⟨g_1, 0, none⟩), 1, 1, [.slice none 0 0, .slice none 0 0, .bool false], false⟩ :: R)) rfl ?_
  refine wr_nil ?_
  refine w_reg ?_
  refine wr_y rfl (Yl.is (y_addI rfl rfl (by omega)) rfl) ?_
  refine wr_y rfl (y_move rfl) ?_
  refine wr_nil ?_
  refine w_round ?_
  refine w_seq ?_
  refine w_reg ?_
  refine wr_y rfl (Yl.t (y_lt rfl rfl) (by decide)) ?_
  refine wr_nil ?_
  refine w_seq ?_
  refine w_true rfl ?_
  refine w_skip ?_
  refine w_seq ?_
  refine w_block ?_
  refine w_seq ?_
  refine w_reg ?_
  refine wr_y rfl (y_move rfl) ?_
  refine wr_y rfl (y_assign rfl) ?_
  refine wr_nil ?_
  refine w_seq ?_
  refine w_reg ?_
  refine wr_y rfl (y_move rfl) ?_
  refine wr_y rfl (y_move rfl) ?_
  refine wr_y rfl (y_move rfl) ?_
  refine wr_a rfl (a_callF en68 rfl (Ct.sub (R1 := (⟨114, 3, (some ⟨g, 0, none⟩), 1, 1, [.int .i64 (a0 + 1), .int .i64 (a1 + 1), .int .i64 a2], false⟩ :: ⟨3, 1, A_6, u.length, c_7, ints .i64 b1, false⟩ :: ⟨3, 1, A_3, u.length, c_4, ints .i64 b0, false⟩ :: ⟨115, 3, (some ⟨g_2, 0, none⟩), 1, 1, [.slice A_3 u.length c_4, .slice A_6 u.length c_7, .slice none 0 0], false⟩ :: ⟨48, 3, (some ⟨g_1, 0, none⟩), 1, 1, [.slice none 0 0, .slice none 0 0, .bool false], false⟩ :: R)) (fun _ h => h.selR (F := [_, _, _, _, _]) (F' := [_, _, _, _, _]) [1, 0, 2, 3, 4] (by decide) rfl) (crossSort2_ct (RdC.right h_u [_, _, _, _]) (by first | rfl | (simp; done) | omega) bh_u hN (by omega)))) ?_
  rintro _ _ ⟨b2, A_9, c_10, rfl, hp_b2, hs_b2, rfl⟩
  refine wr_y rfl (y_move rfl) ?_
  refine wr_y rfl (y_extract rfl rfl) ?_
  refine wr_y rfl (y_extract rfl rfl) ?_
  refine wr_y rfl (y_assign rfl) ?_
  refine wr_y rfl (y_assign rfl) ?_
  refine wr_nil ?_
  refine w_seq ?_
  refine w_seq ?_
  refine w_reg ?_
  refine wr_y rfl (y_move rfl) ?_
  refine wr_y rfl (Yl.f (y_ne rfl rfl) (by decide)) ?_
  refine wr_nil ?_
  refine w_false rfl ?_
  refine w_skip ?_
  refine w_reg ?_
  refine wr_y rfl (y_move rfl) ?_
  refine wr_y rfl (y_move rfl) ?_
  refine wr_y rfl (y_indexIn (q := 2) (rdR 4 (r := ⟨115, 3, (some ⟨g_2, 0, none⟩), 1, 1, [.slice A_3 u.length c_4, .slice A_6 u.length c_7, .slice none 0 0], false⟩) rfl) Tryz.underlying115 sz24 rfl rfl (Nat.le_of_ble_eq_true rfl) (by decide) (by decide) rfl) ?_
  refine wr_n (a_storeAt 4 rfl rfl rfl sz24 rfl rfl rfl rfl (Nat.le_of_ble_eq_true rfl)) ?_
  rintro _ _ rfl
  refine wr_rows (R1 := (⟨3, 1, A_9, u.length, c_10, ints .i64 b2, false⟩ :: ⟨114, 3, (some ⟨g, 0, none⟩), 1, 1, [.int .i64 (a0 + 1), .int .i64 (a1 + 1), .int .i64 (a2 + 1)], false⟩ :: ⟨3, 1, A_6, u.length, c_7, ints .i64 b1, false⟩ :: ⟨3, 1, A_3, u.length, c_4, ints .i64 b0, false⟩ :: ⟨115, 3, (some ⟨g_2, 0, none⟩), 1, 1, [.slice A_3 u.length c_4, .slice A_6 u.length c_7, .slice A_9 u.length c_10], false⟩ :: ⟨48, 3, (some ⟨g_1, 0, none⟩), 1, 1, [.slice none 0 0, .slice none 0 0, .bool false], false⟩ :: R)) rfl ?_
  refine wr_nil ?_
  refine w_reg ?_
  refine wr_y rfl (Yl.is (y_addI rfl rfl (by omega)) rfl) ?_
  refine wr_y rfl (y_move rfl) ?_
  refine wr_nil ?_
  refine w_round ?_
  refine w_seq ?_
  refine w_reg ?_
  refine wr_y rfl (Yl.f (y_lt rfl rfl) (by decide)) ?_
  refine wr_nil ?_
  refine w_seq ?_
  refine w_false rfl ?_
  refine w_exit ?_
  refine w_seq ?_
  refine w_reg ?_
  refine wr_y rfl (y_move rfl) ?_
  refine wr_y rfl (y_indexIn (q := 0) (rdR 4 (r := ⟨115, 3, (some ⟨g_2, 0, none⟩), 1, 1, [.slice A_3 u.length c_4, .slice A_6 u.length c_7, .slice A_9 u.length c_10], false⟩) rfl) Tryz.underlying115 sz24 rfl rfl (Nat.le_of_ble_eq_true rfl) (by decide) (by decide) rfl) ?_
  refine wr_y rfl (y_ldIn (rdR 4 (r := ⟨115, 3, (some ⟨g_2, 0, none⟩), 1, 1, [.slice A_3 u.length c_4, .slice A_6 u.length c_7, .slice A_9 u.length c_10], false⟩) rfl) Tryz.underlying24 rfl rfl rfl) ?_
  refine wr_a rfl (a_callF en69 rfl (Ct.fresh (fun w hw => lcp17_ct ((RdC.right h_u [_, _, _, _, _, _]) w hw) ((rdr 3 rfl) w hw) hp_b0 hs_b0 (by omega)))) ?_
  rintro _ _ ⟨_, rfl, A_12, c_13, rfl, rfl⟩
  refine wr_y rfl (y_move rfl) ?_
  refine wr_y rfl (y_extract rfl rfl) ?_
  refine wr_y rfl (y_extract rfl rfl) ?_
  refine wr_y rfl (y_assign rfl) ?_
  refine wr_y rfl (y_assign rfl) ?_
  refine wr_nil ?_
  refine w_seq ?_
  refine w_reg ?_
  refine wr_y rfl (y_move rfl) ?_
  refine wr_y rfl (y_indexIn (q := 0) (rdR 5 (r := ⟨115, 3, (some ⟨g_2, 0, none⟩), 1, 1, [.slice A_3 u.length c_4, .slice A_6 u.length c_7, .slice A_9 u.length c_10], false⟩) rfl) Tryz.underlying115 sz24 rfl rfl (Nat.le_of_ble_eq_true rfl) (by decide) (by decide) rfl) ?_
  refine wr_y rfl (y_ldIn (rdR 5 (r := ⟨115, 3, (some ⟨g_2, 0, none⟩), 1, 1, [.slice A_3 u.length c_4, .slice A_6 u.length c_7, .slice A_9 u.length c_10], false⟩) rfl) Tryz.underlying24 rfl rfl rfl) ?_
  refine wr_a rfl (a_callF en70 rfl (Ct.fresh (fun w hw => lcp18_ct ((RdC.right h_u [_, _, _, _, _, _, _]) w hw) ((rdr 4 rfl) w hw) hp_b0 hs_b0 (by omega)))) ?_
  rintro _ _ ⟨_, rfl, A_15, c_16, rfl, rfl⟩
  refine wr_y rfl (y_move rfl) ?_
  refine wr_y rfl (y_extract rfl rfl) ?_
  refine wr_y rfl (y_extract rfl rfl) ?_
  refine wr_y rfl (y_assign rfl) ?_
  refine wr_y rfl (y_assign rfl) ?_
  refine wr_nil ?_
  refine w_seq ?_
  refine w_reg ?_
  refine wr_y rfl (y_indexIn (q := 0) (rdR 6 (r := ⟨115, 3, (some ⟨g_2, 0, none⟩), 1, 1, [.slice A_3 u.length c_4, .slice A_6 u.length c_7, .slice A_9 u.length c_10], false⟩) rfl) Tryz.underlying115 sz24 rfl rfl (Nat.le_of_ble_eq_true rfl) (by decide) (by decide) rfl) ?_
  refine wr_y rfl (y_ldIn (rdR 6 (r := ⟨115, 3, (some ⟨g_2, 0, none⟩), 1, 1, [.slice A_3 u.length c_4, .slice A_6 u.length c_7, .slice A_9 u.length c_10], false⟩) rfl) Tryz.underlying24 rfl rfl rfl) ?_
  refine wr_y rfl (y_indexIn (q := 1) (rdR 6 (r := ⟨115, 3, (some ⟨g_2, 0, none⟩), 1, 1, [.slice A_3 u.length c_4, .slice A_6 u.length c_7, .slice A_9 u.length c_10], false⟩) rfl) Tryz.underlying115 sz24 rfl rfl (Nat.le_of_ble_eq_true rfl) (by decide) (by decide) rfl) ?_
  refine wr_y rfl (y_ldIn (rdR 6 (r := ⟨115, 3, (some ⟨g_2, 0, none⟩), 1, 1, [.slice A_3 u.length c_4, .slice A_6 u.length c_7, .slice A_9 u.length c_10], false⟩) rfl) Tryz.underlying24 rfl rfl rfl) ?_
  refine wr_a rfl (a_callF en71 rfl (Ct.quiet (fun w hw => equalI_ct ((rdr 5 rfl) w hw) ((rdr 4 rfl) w hw) (by rw [hp_b0.length_eq, iota_len]; omega)))) ?_
  rintro _ _ ⟨rfl, rfl⟩
  refine wr_setT 51 rfl (one_orderE hp_b0 hp_b1 hs_b0 hs_b1) ?_
  refine wr_y rfl (y_move rfl) ?_
  refine wr_yes rfl rfl ?_
  refine wr_y rfl (y_indexIn (q := 0) (rdR 6 (r := ⟨115, 3, (some ⟨g_2, 0, none⟩), 1, 1, [.slice A_3 u.length c_4, .slice A_6 u.length c_7, .slice A_9 u.length c_10], false⟩) rfl) Tryz.underlying115 sz24 rfl rfl (Nat.le_of_ble_eq_true rfl) (by decide) (by decide) rfl) ?_
  refine wr_yes rfl rfl ?_
  refine wr_y rfl (y_ldIn (rdR 6 (r := ⟨115, 3, (some ⟨g_2, 0, none⟩), 1, 1, [.slice A_3 u.length c_4, .slice A_6 u.length c_7, .slice A_9 u.length c_10], false⟩) rfl) Tryz.underlying24 rfl rfl rfl) ?_
  refine wr_yes rfl rfl ?_
  refine wr_y rfl (y_indexIn (q := 2) (rdR 6 (r := ⟨115, 3, (some ⟨g_2, 0, none⟩), 1, 1, [.slice A_3 u.length c_4, .slice A_6 u.length c_7, .slice A_9 u.length c_10], false⟩) rfl) Tryz.underlying115 sz24 rfl rfl (Nat.le_of_ble_eq_true rfl) (by decide) (by decide) rfl) ?_
  refine wr_yes rfl rfl ?_
  refine wr_y rfl (y_ldIn (rdR 6 (r := ⟨115, 3, (some ⟨g_2, 0, none⟩), 1, 1, [.slice A_3 u.length c_4, .slice A_6 u.length c_7, .slice A_9 u.length c_10], false⟩) rfl) Tryz.underlying24 rfl rfl rfl) ?_
  refine wr_yes rfl rfl ?_
  refine wr_a rfl (a_callF en71 rfl (Ct.quiet (fun w hw => equalI_ct ((rdr 5 rfl) w hw) ((rdr 2 rfl) w hw) (by rw [hp_b0.length_eq, iota_len]; omega)))) ?_
  rintro _ _ ⟨rfl, rfl⟩
  refine wr_setT 57 rfl (one_orderE hp_b0 hp_b2 hs_b0 hs_b2) ?_
  refine wr_y rfl (y_pickT rfl rfl) ?_
  refine wr_y rfl (y_move rfl) ?_
  refine wr_yes rfl rfl ?_
  refine wr_y rfl (y_move rfl) ?_
  refine wr_yes rfl rfl ?_
  refine wr_y rfl (y_move rfl) ?_
  refine wr_yes rfl rfl ?_
  refine wr_a rfl (a_callF en71 rfl (Ct.quiet (fun w hw => equalI_ct ((rdr 1 rfl) w hw) ((rdr 0 rfl) w hw) (by rw [lcpV_len, hp_b0.length_eq, iota_len]; omega)))) ?_
  rintro _ _ ⟨rfl, rfl⟩
  refine wr_setT 62 rfl (rfl) ?_
  refine wr_y rfl (y_pickT rfl rfl) ?_
  refine wr_y rfl (y_assign rfl) ?_
  refine wr_nil ?_
  refine w_seq ?_
  refine w_regd mixed ?_
  refine wd_y 0 rfl (by kernel_rfl) rfl (y_indexIn (q := 0) (rdR 6 (r := ⟨115, 3, (some ⟨g_2, 0, none⟩), 1, 1, [.slice A_3 u.length c_4, .slice A_6 u.length c_7, .slice A_9 u.length c_10], false⟩) rfl) Tryz.underlying115 sz24 rfl rfl (Nat.le_of_ble_eq_true rfl) (by decide) (by decide) rfl) ?_
  refine wd_y 1 rfl (by kernel_rfl) rfl (y_ldIn (rdR 6 (r := ⟨115, 3, (some ⟨g_2, 0, none⟩), 1, 1, [.slice A_3 u.length c_4, .slice A_6 u.length c_7, .slice A_9 u.length c_10], false⟩) rfl) Tryz.underlying24 rfl rfl rfl) ?_
  refine wd_y 2 rfl (by kernel_rfl) rfl (y_move rfl) ?_
  refine wd_y 3 rfl (by kernel_rfl) rfl (y_move rfl) ?_
  refine wd_y 4 rfl (by kernel_rfl) rfl (y_move rfl) ?_
  refine wd_yg 5 rfl (by kernel_rfl) rfl rfl rfl (y_move rfl) ?_
  refine wd_yg 6 rfl (by kernel_rfl) rfl rfl rfl (y_indexIn (q := 0) (rdR 6 (r := ⟨115, 3, (some ⟨g_2, 0, none⟩), 1, 1, [.slice A_3 u.length c_4, .slice A_6 u.length c_7, .slice A_9 u.length c_10], false⟩) rfl) Tryz.underlying115 sz24 rfl rfl (Nat.le_of_ble_eq_true rfl) (by decide) (by decide) rfl) ?_
  refine wd_yg 7 rfl (by kernel_rfl) rfl rfl rfl (y_ldIn (rdR 6 (r := ⟨115, 3, (some ⟨g_2, 0, none⟩), 1, 1, [.slice A_3 u.length c_4, .slice A_6 u.length c_7, .slice A_9 u.length c_10], false⟩) rfl) Tryz.underlying24 rfl rfl rfl) ?_
  refine wd_yg 8 rfl (by kernel_rfl) rfl rfl rfl (y_move rfl) ?_
  refine wd_ag 9 rfl (by kernel_rfl) rfl rfl rfl (a_callF en72 rfl (Ct.quiet (fun w hw => lcp19_ct ((RdC.right h_u [_, _, _, _, _, _, _, _]) w hw) ((rdr 5 rfl) w hw) ((rdr 1 rfl) w hw) hp_b0 hs_b0 (by omega) rfl))) ?_
  rintro _ _ ⟨rfl, rfl⟩
  refine ⟨.inr fun _ h => h, ?_⟩
  refine wd_as (v := .bool true) (congrArg Value.bool (decide_eq_true (trivial))) ?_
  refine wd_y 10 rfl (by kernel_rfl) rfl (y_pickT rfl rfl) ?_
  refine wd_y 11 rfl (by kernel_rfl) rfl (y_build (v := .agg #[.slice A_3 u.length c_4, .slice A_12 ((b0).length) c_13, .bool true]) rfl (fun w => by kernel_rfl)) ?_
  refine wd_n 12 rfl (by kernel_rfl) (a_storeAll (vs := [.slice A_3 u.length c_4, .slice A_12 ((b0).length) c_13, .bool true]) 7 rfl sz48 rfl rfl rfl (by intro v hv; simp at hv; rcases hv with rfl | rfl | rfl <;> rfl) rfl) ?_
  rintro _ _ rfl
  refine ⟨.inl (by kernel_rfl), ?_⟩
  refine wd_rows (R1 := (⟨3, 1, A_15, ((b0).length), c_16, ints .i64 (lcpV u b0), false⟩ :: ⟨3, 1, A_12, ((b0).length), c_13, ints .i64 (lcpV u b0), false⟩ :: ⟨3, 1, A_9, u.length, c_10, ints .i64 b2, false⟩ :: ⟨114, 3, (some ⟨g, 0, none⟩), 1, 1, [.int .i64 (a0 + 1), .int .i64 (a1 + 1), .int .i64 (a2 + 1)], false⟩ :: ⟨3, 1, A_6, u.length, c_7, ints .i64 b1, false⟩ :: ⟨3, 1, A_3, u.length, c_4, ints .i64 b0, false⟩ :: ⟨115, 3, (some ⟨g_2, 0, none⟩), 1, 1, [.slice A_3 u.length c_4, .slice A_6 u.length c_7, .slice A_9 u.length c_10], false⟩ :: ⟨48, 3, (some ⟨g_1, 0, none⟩), 1, 1, [.slice A_3 u.length c_4, .slice A_12 ((b0).length) c_13, .bool true], false⟩ :: R)) rfl ?_
  refine wd_y 13 rfl (by kernel_rfl) rfl (y_assign rfl) ?_
  refine wd_nil (by kernel_rfl) ?_
  refine w_ret ?_
  refine ⟨_, 7, _, rfl, rfl, rfl, rfl, rfl, rfl, rfl, _, rfl, (⟨3, 1, A_3, u.length, c_4, ints .i64 b0, false⟩ :: ⟨3, 1, A_12, ((b0).length), c_13, ints .i64 (lcpV u b0), false⟩ :: ⟨114, 3, (some ⟨g, 0, none⟩), 1, 1, [.int .i64 (a0 + 1), .int .i64 (a1 + 1), .int .i64 (a2 + 1)], false⟩ :: R), fun _ h => h.selR (F := [_, _, _, _, _, _, _, _]) (F' := [_, _, _]) [5, 1, 3] (by decide) rfl, ?_⟩
  have e : b0.length = u.length := by rw [hp_b0.length_eq, iota_len]
  rw [e]
  exact ⟨b0, _, _, _, _, rfl, hp_b0, hs_b0, rfl⟩

end Go.Proofs.YtipnciohgbjjhaaGreat

/-! ## K5 -/
namespace Go.Proofs.YtipnciohgbjjhaaGreat
open Go Go.Eng Go.Pure
set_option linter.unusedVariables false
set_option maxRecDepth 100000 in
theorem load64_0_ct {B : Nat} {w0 : World} {R : List Row} {g : Nat} {a0 a1 a2 : Int} :
    Ct Tryz.prog 136 #[.pointer (some ⟨g, 0, none⟩)] B w0 (⟨114, 3, (some ⟨g, 0, none⟩), 1, 1, [.int .i64 a0, .int .i64 a1, .int .i64 a2], false⟩ :: R) (fun v R' => v = .int .i64 a0 ∧ R' = ⟨114, 3, (some ⟨g, 0, none⟩), 1, 1, [.int .i64 a0, .int .i64 a1, .int .i64 a2], false⟩ :: R) := by
  refine fn1 Tryz.func136 rfl rfl rfl ?_
  refine w_seq ?_
  refine w_reg ?_
  refine wr_y rfl (y_assign rfl) ?_
  refine wr_nil ?_
  refine w_seq ?_
  refine w_reg ?_
  refine wr_y rfl (y_move rfl) ?_
  refine wr_y rfl (y_nilCheck rfl) ?_
  refine wr_y rfl (y_fieldAt (off := 0) (m := 0) Tryz.underlying111 rfl sz2 rfl rfl rfl) ?_
  refine wr_a rfl (a_ext rfl (fun w hw => ⟨_, run_call_load (P := Tryz.prog) Tryz.func208 (by kernel_rfl) (by kernel_rfl) (by kernel_rfl) .i64 (by kernel_rfl) (hw.cellAt 0 (r := ⟨114, 3, (some ⟨g, 0, none⟩), 1, 1, [.int .i64 a0, .int .i64 a1, .int .i64 a2], false⟩) (j := 0) rfl rfl rfl), hw⟩)) ?_
  rintro _ _ ⟨rfl, rfl⟩
  refine wr_y rfl (y_assign rfl) ?_
  refine wr_nil ?_
  refine w_ret ?_
  refine ⟨_, rfl, ?_⟩
  exact ⟨rfl, rfl⟩

set_option maxRecDepth 100000 in
theorem load64_1_ct {B : Nat} {w0 : World} {R : List Row} {g : Nat} {a0 a1 a2 : Int} :
    Ct Tryz.prog 136 #[.pointer (some ⟨g, 1, none⟩)] B w0 (⟨114, 3, (some ⟨g, 0, none⟩), 1, 1, [.int .i64 a0, .int .i64 a1, .int .i64 a2], false⟩ :: R) (fun v R' => v = .int .i64 a1 ∧ R' = ⟨114, 3, (some ⟨g, 0, none⟩), 1, 1, [.int .i64 a0, .int .i64 a1, .int .i64 a2], false⟩ :: R) := by
  refine fn1 Tryz.func136 rfl rfl rfl ?_
  refine w_seq ?_
  refine w_reg ?_
  refine wr_y rfl (y_assign rfl) ?_
  refine wr_nil ?_
  refine w_seq ?_
  refine w_reg ?_
  refine wr_y rfl (y_move rfl) ?_
  refine wr_y rfl (y_nilCheck rfl) ?_
  refine wr_y rfl (y_fieldAt (off := 0) (m := 1) Tryz.underlying111 rfl sz2 rfl rfl rfl) ?_
  refine wr_a rfl (a_ext rfl (fun w hw => ⟨_, run_call_load (P := Tryz.prog) Tryz.func208 (by kernel_rfl) (by kernel_rfl) (by kernel_rfl) .i64 (by kernel_rfl) (hw.cellAt 0 (r := ⟨114, 3, (some ⟨g, 0, none⟩), 1, 1, [.int .i64 a0, .int .i64 a1, .int .i64 a2], false⟩) (j := 1) rfl rfl rfl), hw⟩)) ?_
  rintro _ _ ⟨rfl, rfl⟩
  refine wr_y rfl (y_assign rfl) ?_
  refine wr_nil ?_
  refine w_ret ?_
  refine ⟨_, rfl, ?_⟩
  exact ⟨rfl, rfl⟩

set_option maxRecDepth 100000 in
theorem load64_2_ct {B : Nat} {w0 : World} {R : List Row} {g : Nat} {a0 a1 a2 : Int} :
    Ct Tryz.prog 136 #[.pointer (some ⟨g, 2, none⟩)] B w0 (⟨114, 3, (some ⟨g, 0, none⟩), 1, 1, [.int .i64 a0, .int .i64 a1, .int .i64 a2], false⟩ :: R) (fun v R' => v = .int .i64 a2 ∧ R' = ⟨114, 3, (some ⟨g, 0, none⟩), 1, 1, [.int .i64 a0, .int .i64 a1, .int .i64 a2], false⟩ :: R) := by
  refine fn1 Tryz.func136 rfl rfl rfl ?_
  refine w_seq ?_
  refine w_reg ?_
  refine wr_y rfl (y_assign rfl) ?_
  refine wr_nil ?_
  refine w_seq ?_
  refine w_reg ?_
  refine wr_y rfl (y_move rfl) ?_
  refine wr_y rfl (y_nilCheck rfl) ?_
  refine wr_y rfl (y_fieldAt (off := 0) (m := 2) Tryz.underlying111 rfl sz2 rfl rfl rfl) ?_
  refine wr_a rfl (a_ext rfl (fun w hw => ⟨_, run_call_load (P := Tryz.prog) Tryz.func208 (by kernel_rfl) (by kernel_rfl) (by kernel_rfl) .i64 (by kernel_rfl) (hw.cellAt 0 (r := ⟨114, 3, (some ⟨g, 0, none⟩), 1, 1, [.int .i64 a0, .int .i64 a1, .int .i64 a2], false⟩) (j := 2) rfl rfl rfl), hw⟩)) ?_
  rintro _ _ ⟨rfl, rfl⟩
  refine wr_y rfl (y_assign rfl) ?_
  refine wr_nil ?_
  refine w_ret ?_
  refine ⟨_, rfl, ?_⟩
  exact ⟨rfl, rfl⟩

set_option maxRecDepth 100000 in
theorem crossRuns_ct {B : Nat} {w0 : World} {R : List Row} {g : Nat} {a0 a1 a2 : Int} :
    Ct Tryz.prog 77 #[.pointer (some ⟨g, 0, none⟩)] B w0 (⟨114, 3, (some ⟨g, 0, none⟩), 1, 1, [.int .i64 a0, .int .i64 a1, .int .i64 a2], false⟩ :: R) (fun v R' => v = .agg #[.int .i64 a0, .int .i64 a1, .int .i64 a2] ∧ R' = ⟨114, 3, (some ⟨g, 0, none⟩), 1, 1, [.int .i64 a0, .int .i64 a1, .int .i64 a2], false⟩ :: R) := by
  refine fnC Tryz.func77 rfl rfl rfl Tryz.underlying122 rfl sz122 ?_
  refine w_seq ?_
  refine w_reg ?_
  refine wr_a rfl (a_alloc (sz := 3) zz122 rfl) ?_
  rintro _ _ ⟨g_1, rfl, rfl⟩
  refine wr_rows (R1 := (⟨122, 3, (some ⟨g_1, 0, none⟩), 1, 1, [.int .i64 0, .int .i64 0, .int .i64 0], false⟩ :: ⟨114, 3, (some ⟨g, 0, none⟩), 1, 1, [.int .i64 a0, .int .i64 a1, .int .i64 a2], false⟩ :: R)) rfl ?_
  refine wr_nil ?_
  refine w_seq ?_
  refine w_reg ?_
  refine wr_a rfl (a_alloc (sz := 3) zz122 rfl) ?_
  rintro _ _ ⟨g_2, rfl, rfl⟩
  refine wr_rows (R1 := (⟨122, 3, (some ⟨g_2, 0, none⟩), 1, 1, [.int .i64 0, .int .i64 0, .int .i64 0], false⟩ :: ⟨122, 3, (some ⟨g_1, 0, none⟩), 1, 1, [.int .i64 0, .int .i64 0, .int .i64 0], false⟩ :: ⟨114, 3, (some ⟨g, 0, none⟩), 1, 1, [.int .i64 a0, .int .i64 a1, .int .i64 a2], false⟩ :: R)) rfl ?_
  refine wr_nil ?_
  refine w_seq ?_
  refine w_seq ?_
  refine w_reg ?_
  refine wr_y rfl (y_move rfl) ?_
  refine wr_y rfl (y_ptrNe Tryz.underlying45 rfl rfl) ?_
  refine wr_nil ?_
  refine w_true rfl ?_
  refine w_seq ?_
  refine w_reg ?_
  refine wr_y rfl (y_move rfl) ?_
  refine wr_nil ?_
  refine w_block ?_
  refine w_rounds 4 ?_
  refine w_round ?_
  refine w_seq ?_
  refine w_reg ?_
  refine wr_y rfl (Yl.t (y_lt rfl rfl) (by decide)) ?_
  refine wr_nil ?_
  refine w_seq ?_
  refine w_true rfl ?_
  refine w_skip ?_
  refine w_seq ?_
  refine w_block ?_
  refine w_seq ?_
  refine w_reg ?_
  refine wr_y rfl (y_move rfl) ?_
  refine wr_y rfl (y_assign rfl) ?_
  refine wr_nil ?_
  refine w_reg ?_
  refine wr_y rfl (y_move rfl) ?_
  refine wr_y rfl (y_move rfl) ?_
  refine wr_y rfl (y_move rfl) ?_
  refine wr_y rfl (y_nilCheck rfl) ?_
  refine wr_y rfl (y_fieldAt (off := 0) (m := 0) Tryz.underlying114 rfl sz112 rfl rfl rfl) ?_
  refine wr_y rfl (y_indexIn (q := 0) (rdR 2 (r := ⟨114, 3, (some ⟨g, 0, none⟩), 1, 1, [.int .i64 a0, .int .i64 a1, .int .i64 a2], false⟩) rfl) Tryz.underlying112 sz111 rfl rfl (Nat.le_of_ble_eq_true rfl) (by decide) (by decide) rfl) ?_
  refine wr_a rfl (a_callF en136 rfl (Ct.at 2 rfl (load64_0_ct))) ?_
  rintro _ _ ⟨rfl, rfl⟩
  refine wr_rows (R1 := (⟨122, 3, (some ⟨g_2, 0, none⟩), 1, 1, [.int .i64 0, .int .i64 0, .int .i64 0], false⟩ :: ⟨122, 3, (some ⟨g_1, 0, none⟩), 1, 1, [.int .i64 0, .int .i64 0, .int .i64 0], false⟩ :: ⟨114, 3, (some ⟨g, 0, none⟩), 1, 1, [.int .i64 a0, .int .i64 a1, .int .i64 a2], false⟩ :: R)) rfl ?_
  refine wr_y rfl (y_indexIn (q := 0) (rdR 0 (r := ⟨122, 3, (some ⟨g_2, 0, none⟩), 1, 1, [.int .i64 0, .int .i64 0, .int .i64 0], false⟩) rfl) Tryz.underlying122 sz3 rfl rfl (Nat.le_of_ble_eq_true rfl) (by decide) (by decide) rfl) ?_
  refine wr_n (a_storeAt 0 rfl rfl rfl sz3 rfl rfl rfl rfl (Nat.le_of_ble_eq_true rfl)) ?_
  rintro _ _ rfl
  refine wr_rows (R1 := (⟨122, 3, (some ⟨g_2, 0, none⟩), 1, 1, [.int .i64 a0, .int .i64 0, .int .i64 0], false⟩ :: ⟨122, 3, (some ⟨g_1, 0, none⟩), 1, 1, [.int .i64 0, .int .i64 0, .int .i64 0], false⟩ :: ⟨114, 3, (some ⟨g, 0, none⟩), 1, 1, [.int .i64 a0, .int .i64 a1, .int .i64 a2], false⟩ :: R)) rfl ?_
  refine wr_nil ?_
  refine w_reg ?_
  refine wr_y rfl (Yl.is (y_addI rfl rfl (by omega)) rfl) ?_
  refine wr_y rfl (y_move rfl) ?_
  refine wr_nil ?_
  refine w_round ?_
  refine w_seq ?_
  refine w_reg ?_
  refine wr_y rfl (Yl.t (y_lt rfl rfl) (by decide)) ?_
  refine wr_nil ?_
  refine w_seq ?_
  refine w_true rfl ?_
  refine w_skip ?_
  refine w_seq ?_
  refine w_block ?_
  refine w_seq ?_
  refine w_reg ?_
  refine wr_y rfl (y_move rfl) ?_
  refine wr_y rfl (y_assign rfl) ?_
  refine wr_nil ?_
  refine w_reg ?_
  refine wr_y rfl (y_move rfl) ?_
  refine wr_y rfl (y_move rfl) ?_
  refine wr_y rfl (y_move rfl) ?_
  refine wr_y rfl (y_nilCheck rfl) ?_
  refine wr_y rfl (y_fieldAt (off := 0) (m := 0) Tryz.underlying114 rfl sz112 rfl rfl rfl) ?_
  refine wr_y rfl (y_indexIn (q := 1) (rdR 2 (r := ⟨114, 3, (some ⟨g, 0, none⟩), 1, 1, [.int .i64 a0, .int .i64 a1, .int .i64 a2], false⟩) rfl) Tryz.underlying112 sz111 rfl rfl (Nat.le_of_ble_eq_true rfl) (by decide) (by decide) rfl) ?_
  refine wr_a rfl (a_callF en136 rfl (Ct.at 2 rfl (load64_1_ct))) ?_
  rintro _ _ ⟨rfl, rfl⟩
  refine wr_rows (R1 := (⟨122, 3, (some ⟨g_2, 0, none⟩), 1, 1, [.int .i64 a0, .int .i64 0, .int .i64 0], false⟩ :: ⟨122, 3, (some ⟨g_1, 0, none⟩), 1, 1, [.int .i64 0, .int .i64 0, .int .i64 0], false⟩ :: ⟨114, 3, (some ⟨g, 0, none⟩), 1, 1, [.int .i64 a0, .int .i64 a1, .int .i64 a2], false⟩ :: R)) rfl ?_
  refine wr_y rfl (y_indexIn (q := 1) (rdR 0 (r := ⟨122, 3, (some ⟨g_2, 0, none⟩), 1, 1, [.int .i64 a0, .int .i64 0, .int .i64 0], false⟩) rfl) Tryz.underlying122 sz3 rfl rfl (Nat.le_of_ble_eq_true rfl) (by decide) (by decide) rfl) ?_
  refine wr_n (a_storeAt 0 rfl rfl rfl sz3 rfl rfl rfl rfl (Nat.le_of_ble_eq_true rfl)) ?_
  rintro _ _ rfl
  refine wr_rows (R1 := (⟨122, 3, (some ⟨g_2, 0, none⟩), 1, 1, [.int .i64 a0, .int .i64 a1, .int .i64 0], false⟩ :: ⟨122, 3, (some ⟨g_1, 0, none⟩), 1, 1, [.int .i64 0, .int .i64 0, .int .i64 0], false⟩ :: ⟨114, 3, (some ⟨g, 0, none⟩), 1, 1, [.int .i64 a0, .int .i64 a1, .int .i64 a2], false⟩ :: R)) rfl ?_
  refine wr_nil ?_
  refine w_reg ?_
  refine wr_y rfl (Yl.is (y_addI rfl rfl (by omega)) rfl) ?_
  refine wr_y rfl (y_move rfl) ?_
  refine wr_nil ?_
  refine w_round ?_
  refine w_seq ?_
  refine w_reg ?_
  refine wr_y rfl (Yl.t (y_lt rfl rfl) (by decide)) ?_
  refine wr_nil ?_
  refine w_seq ?_
  refine w_true rfl ?_
  refine w_skip ?_
  refine w_seq ?_
  refine w_block ?_
  refine w_seq ?_
  refine w_reg ?_
  refine wr_y rfl (y_move rfl) ?_
  refine wr_y rfl (y_assign rfl) ?_
  refine wr_nil ?_
  refine w_reg ?_
  refine wr_y rfl (y_move rfl) ?_
  refine wr_y rfl (y_move rfl) ?_
  refine wr_y rfl (y_move rfl) ?_
  refine wr_y rfl (y_nilCheck rfl) ?_
  refine wr_y rfl (y_fieldAt (off := 0) (m := 0) Tryz.underlying114 rfl sz112 rfl rfl rfl) ?_
  refine wr_y rfl (y_indexIn (q := 2) (rdR 2 (r := ⟨114, 3, (some ⟨g, 0, none⟩), 1, 1, [.int .i64 a0, .int .i64 a1, .int .i64 a2], false⟩) rfl) Tryz.underlying112 sz111 rfl rfl (Nat.le_of_ble_eq_true rfl) (by decide) (by decide) rfl) ?_
  refine wr_a rfl (a_callF en136 rfl (Ct.at 2 rfl (load64_2_ct))) ?_
  rintro _ _ ⟨rfl, rfl⟩
  refine wr_rows (R1 := (⟨122, 3, (some ⟨g_2, 0, none⟩), 1, 1, [.int .i64 a0, .int .i64 a1, .int .i64 0], false⟩ :: ⟨122, 3, (some ⟨g_1, 0, none⟩), 1, 1, [.int .i64 0, .int .i64 0, .int .i64 0], false⟩ :: ⟨114, 3, (some ⟨g, 0, none⟩), 1, 1, [.int .i64 a0, .int .i64 a1, .int .i64 a2], false⟩ :: R)) rfl ?_
  refine wr_y rfl (y_indexIn (q := 2) (rdR 0 (r := ⟨122, 3, (some ⟨g_2, 0, none⟩), 1, 1, [.int .i64 a0, .int .i64 a1, .int .i64 0], false⟩) rfl) Tryz.underlying122 sz3 rfl rfl (Nat.le_of_ble_eq_true rfl) (by decide) (by decide) rfl) ?_
  refine wr_n (a_storeAt 0 rfl rfl rfl sz3 rfl rfl rfl rfl (Nat.le_of_ble_eq_true rfl)) ?_
  rintro _ _ rfl
  refine wr_rows (R1 := (⟨122, 3, (some ⟨g_2, 0, none⟩), 1, 1, [.int .i64 a0, .int .i64 a1, .int .i64 a2], false⟩ :: ⟨122, 3, (some ⟨g_1, 0, none⟩), 1, 1, [.int .i64 0, .int .i64 0, .int .i64 0], false⟩ :: ⟨114, 3, (some ⟨g, 0, none⟩), 1, 1, [.int .i64 a0, .int .i64 a1, .int .i64 a2], false⟩ :: R)) rfl ?_
  refine wr_nil ?_
  refine w_reg ?_
  refine wr_y rfl (Yl.is (y_addI rfl rfl (by omega)) rfl) ?_
  refine wr_y rfl (y_move rfl) ?_
  refine wr_nil ?_
  refine w_round ?_
  refine w_seq ?_
  refine w_reg ?_
  refine wr_y rfl (Yl.f (y_lt rfl rfl) (by decide)) ?_
  refine wr_nil ?_
  refine w_seq ?_
  refine w_false rfl ?_
  refine w_exit ?_
  refine w_seq ?_
  refine w_reg ?_
  refine wr_y rfl (y_ldInA (vs := [.int .i64 a0, .int .i64 a1, .int .i64 a2]) (rdR 0 (r := ⟨122, 3, (some ⟨g_2, 0, none⟩), 1, 1, [.int .i64 a0, .int .i64 a1, .int .i64 a2], false⟩) rfl) Tryz.underlying122 rfl sz122 rfl rfl (Nat.le_of_ble_eq_true rfl) rfl) ?_
  refine wr_n (a_storeAll (vs := [.int .i64 a0, .int .i64 a1, .int .i64 a2]) 1 rfl sz122 rfl rfl rfl (by intro v hv; simp at hv; rcases hv with rfl | rfl | rfl <;> rfl) rfl) ?_
  rintro _ _ rfl
  refine wr_rows (R1 := (⟨122, 3, (some ⟨g_2, 0, none⟩), 1, 1, [.int .i64 a0, .int .i64 a1, .int .i64 a2], false⟩ :: ⟨122, 3, (some ⟨g_1, 0, none⟩), 1, 1, [.int .i64 a0, .int .i64 a1, .int .i64 a2], false⟩ :: ⟨114, 3, (some ⟨g, 0, none⟩), 1, 1, [.int .i64 a0, .int .i64 a1, .int .i64 a2], false⟩ :: R)) rfl ?_
  refine wr_nil ?_
  refine w_ret ?_
  refine ⟨_, 1, _, rfl, rfl, rfl, rfl, rfl, rfl, rfl, (⟨114, 3, (some ⟨g, 0, none⟩), 1, 1, [.int .i64 a0, .int .i64 a1, .int .i64 a2], false⟩ :: R), fun _ h => h.selR (F := [_, _, _]) (F' := [_]) [2] (by decide) rfl, ?_⟩
  exact ⟨rfl, rfl⟩

theorem aa_order : ([1, 0] : List Int).Perm (iota ([97, 97] : List Int).length) ∧ ([1, 0] : List Int).Pairwise (ordE [97, 97]) := by
  refine ⟨by decide +kernel, ?_⟩
  have h : ([1, 0] : List Int).Pairwise (fun x y => cmpL (([97, 97] : List Int).drop x.toNat) (([97, 97] : List Int).drop y.toNat) < 0) := by decide +kernel
  exact h.imp fun h => ordE_cmp.1 h
set_option maxRecDepth 100000 in
set_option maxHeartbeats 1000000 in
theorem known20_ct {w : World}  :
    Ct Tryz.prog 31 #[] w.heap.size w [] (fun v R' => v = .bool true) := by
  refine fn1 Tryz.func31 rfl rfl rfl ?_
  refine w_seq ?_
  refine w_reg ?_
  refine wr_y rfl (y_assign rfl) ?_
  refine wr_nil ?_
  refine w_seq ?_
  refine w_reg ?_
  refine wr_a rfl (a_callF en26 rfl (Ct.fresh (fun w hw => crossNew_ct))) ?_
  rintro _ _ ⟨_, rfl, g_1, rfl, rfl⟩
  refine wr_y rfl (y_assign rfl) ?_
  refine wr_nil ?_
  refine w_seq ?_
  refine w_seq ?_
  refine w_reg ?_
  refine wr_y rfl (y_move rfl) ?_
  refine wr_y rfl (y_ptrEq Tryz.underlying45 rfl rfl) ?_
  refine wr_nil ?_
  refine w_false rfl ?_
  refine w_skip ?_
  refine w_seq ?_
  refine w_reg ?_
  refine wr_y rfl (y_move rfl) ?_
  refine wr_a rfl (a_litI .u8 [97, 97] Tryz.underlying23 zs5 rfl rfl rfl) ?_
  rintro _ _ ⟨g_3, rfl, rfl⟩
  refine wr_a rfl (a_mark 0 rfl rfl Tryz.underlying23 Tryz.underlying5 rfl rfl) ?_
  rintro _ _ ⟨rfl, rfl⟩
  refine wr_rows (R1 := [⟨5, 1, (some ⟨g_3, 0, none⟩), 2, 2, ints .u8 ([97, 97]), true⟩, ⟨114, 3, (some ⟨g_1, 0, none⟩), 1, 1, [.int .i64 0, .int .i64 0, .int .i64 0], false⟩]) rfl ?_
  refine wr_a rfl (a_callF en27 rfl (Ct.sub (R1 := [⟨114, 3, (some ⟨g_1, 0, none⟩), 1, 1, [.int .i64 0, .int .i64 0, .int .i64 0], false⟩, ⟨5, 1, (some ⟨g_3, 0, none⟩), 2, 2, ints .u8 ([97, 97]), true⟩]) (fun _ h => h.sel [1, 0] (by decide) rfl) (crossRun_ct (rdR 0 (r := ⟨5, 1, (some ⟨g_3, 0, none⟩), 2, 2, ints .u8 ([97, 97]), true⟩) rfl) (by first | rfl | (simp; done) | omega) (by show ByteL [97, 97]; unfold ByteL; decide) (by show [97, 97].length ≤ 100000; decide) (by decide)))) ?_
  rintro _ _ ⟨b1, A_4, A_6, c_5, c_7, rfl, hp_b1, hs_b1, rfl⟩
  refine wr_y rfl (y_move rfl) ?_
  refine wr_y rfl (y_extract rfl rfl) ?_
  refine wr_y rfl (y_extract rfl rfl) ?_
  refine wr_a rfl (a_alloc (sz := 3) zz48 rfl) ?_
  rintro _ _ ⟨g_11, rfl, rfl⟩
  refine wr_rows (R1 := [⟨48, 3, (some ⟨g_11, 0, none⟩), 1, 1, [.slice none 0 0, .slice none 0 0, .bool false], false⟩, ⟨3, 1, A_4, ([97, 97]).length, c_5, ints .i64 b1, false⟩, ⟨3, 1, A_6, ([97, 97]).length, c_7, ints .i64 (lcpV ([97, 97]) b1), false⟩, ⟨114, 3, (some ⟨g_1, 0, none⟩), 1, 1, [.int .i64 (0 + 1), .int .i64 (0 + 1), .int .i64 (0 + 1)], false⟩, ⟨5, 1, (some ⟨g_3, 0, none⟩), 2, 2, ints .u8 ([97, 97]), true⟩]) rfl ?_
  refine wr_n (a_storeAll (vs := [.slice A_4 (([97, 97]).length) c_5, .slice A_6 (([97, 97]).length) c_7, .bool true]) 0 rfl sz48 rfl rfl rfl (by intro v hv; simp at hv; rcases hv with rfl | rfl | rfl <;> rfl) rfl) ?_
  rintro _ _ rfl
  refine wr_rows (R1 := [⟨48, 3, (some ⟨g_11, 0, none⟩), 1, 1, [.slice A_4 (([97, 97]).length) c_5, .slice A_6 (([97, 97]).length) c_7, .bool true], false⟩, ⟨3, 1, A_4, ([97, 97]).length, c_5, ints .i64 b1, false⟩, ⟨3, 1, A_6, ([97, 97]).length, c_7, ints .i64 (lcpV ([97, 97]) b1), false⟩, ⟨114, 3, (some ⟨g_1, 0, none⟩), 1, 1, [.int .i64 (0 + 1), .int .i64 (0 + 1), .int .i64 (0 + 1)], false⟩, ⟨5, 1, (some ⟨g_3, 0, none⟩), 2, 2, ints .u8 ([97, 97]), true⟩]) rfl ?_
  refine wr_y rfl (y_assign rfl) ?_
  refine wr_nil ?_
  refine w_seq ?_
  refine w_reg ?_
  refine wr_y rfl (y_move rfl) ?_
  refine wr_y rfl (Yl.t (y_eq rfl rfl) (by decide)) ?_
  refine wr_y rfl (y_move rfl) ?_
  refine wr_yes rfl rfl ?_
  refine wr_y rfl (y_fieldAt (off := 2) (m := 2) Tryz.underlying48 rfl sz4 rfl rfl rfl) ?_
  refine wr_yes rfl rfl ?_
  refine wr_y rfl (y_ldIn (rdR 0 (r := ⟨48, 3, (some ⟨g_11, 0, none⟩), 1, 1, [.slice A_4 (([97, 97]).length) c_5, .slice A_6 (([97, 97]).length) c_7, .bool true], false⟩) rfl) Tryz.underlying4 rfl rfl rfl) ?_
  refine wr_y rfl (y_pickT rfl rfl) ?_
  refine wr_y rfl (y_move rfl) ?_
  refine wr_yes rfl rfl ?_
  refine wr_y rfl (y_fieldAt (off := 0) (m := 0) Tryz.underlying48 rfl sz24 rfl rfl rfl) ?_
  refine wr_yes rfl rfl ?_
  refine wr_y rfl (y_ldIn (rdR 0 (r := ⟨48, 3, (some ⟨g_11, 0, none⟩), 1, 1, [.slice A_4 (([97, 97]).length) c_5, .slice A_6 (([97, 97]).length) c_7, .bool true], false⟩) rfl) Tryz.underlying24 rfl rfl rfl) ?_
  refine wr_yes rfl rfl ?_
  refine wr_a rfl (a_litI .i64 [1, 0] Tryz.underlying24 zs3 rfl rfl rfl) ?_
  rintro _ _ ⟨g_13, rfl, rfl⟩
  refine wr_yes rfl rfl ?_
  refine wr_a rfl (a_callF en30 rfl (Ct.quiet (fun w hw => ints4_ct ((rdr 2 rfl) w hw) ((rdr 0 rfl) w hw) (by rw [hp_b1.length_eq, iota_len]; decide)))) ?_
  rintro _ _ ⟨rfl, rfl⟩
  refine wr_setT 24 rfl (one_orderE hp_b1 aa_order.1 hs_b1 aa_order.2) ?_
  refine wr_y rfl (y_pickT rfl rfl) ?_
  refine wr_y rfl (y_move rfl) ?_
  refine wr_yes rfl rfl ?_
  refine wr_y rfl (y_fieldAt (off := 1) (m := 1) Tryz.underlying48 rfl sz24 rfl rfl rfl) ?_
  refine wr_yes rfl rfl ?_
  refine wr_y rfl (y_ldIn (rdR 1 (r := ⟨48, 3, (some ⟨g_11, 0, none⟩), 1, 1, [.slice A_4 (([97, 97]).length) c_5, .slice A_6 (([97, 97]).length) c_7, .bool true], false⟩) rfl) Tryz.underlying24 rfl rfl rfl) ?_
  refine wr_yes rfl rfl ?_
  refine wr_a rfl (a_litI .i64 [0, 1] Tryz.underlying24 zs3 rfl rfl rfl) ?_
  rintro _ _ ⟨g_15, rfl, rfl⟩
  refine wr_yes rfl rfl ?_
  refine wr_a rfl (a_callF en30 rfl (Ct.quiet (fun w hw => ints4_ct ((rdr 4 rfl) w hw) ((rdr 0 rfl) w hw) (by rw [lcpV_len, hp_b1.length_eq, iota_len]; decide)))) ?_
  rintro _ _ ⟨rfl, rfl⟩
  refine wr_setT 30 rfl (by rw [one_orderE hp_b1 aa_order.1 hs_b1 aa_order.2]; decide +kernel) ?_
  refine wr_y rfl (y_pickT rfl rfl) ?_
  refine wr_y rfl (y_move rfl) ?_
  refine wr_yes rfl rfl ?_
  refine wr_y rfl (y_move rfl) ?_
  refine wr_yes rfl rfl ?_
  refine wr_a rfl (a_callF en77 rfl (Ct.at 5 rfl (crossRuns_ct))) ?_
  rintro _ _ ⟨rfl, rfl⟩
  refine wr_rows (R1 := [⟨3, 1, (some ⟨g_15, 0, none⟩), 2, 2, ints .i64 ([0, 1]), false⟩, ⟨3, 1, (some ⟨g_13, 0, none⟩), 2, 2, ints .i64 ([1, 0]), false⟩, ⟨48, 3, (some ⟨g_11, 0, none⟩), 1, 1, [.slice A_4 (([97, 97]).length) c_5, .slice A_6 (([97, 97]).length) c_7, .bool true], false⟩, ⟨3, 1, A_4, ([97, 97]).length, c_5, ints .i64 b1, false⟩, ⟨3, 1, A_6, ([97, 97]).length, c_7, ints .i64 (lcpV ([97, 97]) b1), false⟩, ⟨114, 3, (some ⟨g_1, 0, none⟩), 1, 1, [.int .i64 (0 + 1), .int .i64 (0 + 1), .int .i64 (0 + 1)], false⟩, ⟨5, 1, (some ⟨g_3, 0, none⟩), 2, 2, ints .u8 ([97, 97]), true⟩]) rfl ?_
  refine wr_yes rfl rfl ?_
  refine wr_y rfl (y_build (v := .agg #[.int .i64 1, .int .i64 1, .int .i64 1]) rfl (fun w => by kernel_rfl)) ?_
  refine wr_yes rfl rfl ?_
  refine wr_y rfl (Yl.t (y_eqTri Tryz.underlying122 Tryz.underlying3 (fun w => by kernel_rfl) (by kernel_rfl) rfl rfl) (by decide)) ?_
  refine wr_y rfl (y_pickT rfl rfl) ?_
  refine wr_y rfl (y_assign rfl) ?_
  refine wr_nil ?_
  refine w_retR (R1 := []) (fun _ h => h.sel [] (by decide) rfl) ?_
  refine ⟨_, rfl, ?_⟩
  rfl

end Go.Proofs.YtipnciohgbjjhaaGreat

/-! ## K6 -/
namespace Go.Proofs.YtipnciohgbjjhaaGreat
open Go Go.Eng Go.Pure
set_option linter.unusedVariables false
theorem lcpV_init {s a : List Int} : ∀ p : Int, 0 ≤ p → p < 1 → p < a.length → rd (List.replicate a.length 0) p = rd (lcpV s a) p := by
  intro p h0 h1 h2
  rw [rd_replicate, rd_lcpV h0 h2, if_pos (by omega)]
theorem lcpV_put {s a V : List Int} {i m : Int} (h : ∀ p : Int, 0 ≤ p → p < i → p < a.length → rd V p = rd (lcpV s a) p) (hl : V.length = a.length) (h1 : 1 ≤ i) (hi : i < a.length) (hm : m = (com s (rd a (i - 1)) (rd a i) : Int)) :
    ∀ p : Int, 0 ≤ p → p < i + 1 → p < a.length → rd (upd V i m) p = rd (lcpV s a) p := by
  intro p p0 p1 p2
  rw [rd_upd (by omega) p0 (by omega)]
  by_cases c : p = i
  · subst c
    rw [if_pos rfl, rd_lcpV p0 p2, if_neg (by omega), hm, com_comm]
  · rw [if_neg c]; exact h p p0 (by omega) p2
set_option maxRecDepth 100000 in
theorem common4r_ct {w : World} {A_u : Option Addr} {n_u c_u : Nat} {u : List Int} {i : Int} {j : Int} (h_u : Rd w A_u n_u c_u 1 (ints .u8 u)) (hij : (0 ≤ i ∧ i ≤ u.length) ∧ (0 ≤ j ∧ j ≤ u.length)) (hN : u.length ≤ 1000000) :
    Ct Tryz.prog 76 #[.slice A_u n_u c_u, .int .i64 i, .int .i64 j] w.heap.size w [] (fun v R' => v = .int .i64 (com u i j : Int)) := by
  obtain rfl := h_u.lenI
  refine fn1 Tryz.func76 rfl rfl rfl ?_
  have m_u := h_u.max
  have hcb := com_bd (s := u) hij.1.1 hij.1.2 hij.2.1 hij.2.2
  refine w_seq ?_
  refine w_reg ?_
  refine wr_y rfl (y_assign rfl) ?_
  refine wr_nil ?_
  refine w_seq ?_
  refine w_seq ?_
  refine w_reg ?_
  refine wr_y rfl (y_move rfl) ?_
  refine wr_y rfl (y_lt rfl rfl) ?_
  refine wr_y rfl (y_move rfl) ?_
  refine wr_mid 5 [(0, .slice A_u u.length c_u), (1, .int .i64 i), (2, .int .i64 j), (15, .bool (decide ((i < 0) ∨ (((u.length : Nat) : Int) < i))))] [] ?_ ?_
  ·
    refine wr_case 10 rfl (fun hc1 => ?_) (fun hc1 => ?_)
    ·
      refine wr_no rfl rfl rfl rfl ?_
      refine wr_no rfl rfl rfl rfl ?_
      refine wr_no rfl rfl rfl rfl ?_
      refine wr_no rfl rfl rfl rfl ?_
      refine wr_y rfl (y_pickT rfl rfl) ?_
      refine wr_nil ?_
      exact ⟨(Sub.cons rfl (Sub.cons rfl (Sub.cons rfl (Sub.to rfl (mb_t (by first | omega | exact ⟨fun h => ⟨(by assumption), h⟩, fun h => h.2⟩ | exact .inl (by assumption) | exact ⟨.inr, fun h => h.resolve_left (by assumption)⟩ | exact ⟨fun h => h.resolve_left (by assumption), .inr⟩ | simp [*])) Sub.nil)))), fun _ h => h⟩
    ·
      refine wr_yes rfl rfl ?_
      refine wr_y rfl (y_move rfl) ?_
      refine wr_yes rfl rfl ?_
      refine wr_y rfl (y_move rfl) ?_
      refine wr_yes rfl rfl ?_
      refine wr_y rfl (y_len Tryz.underlying23 rfl) ?_
      refine wr_yes rfl rfl ?_
      refine wr_y rfl (y_gt rfl rfl) ?_
      refine wr_y rfl (y_pickF rfl rfl) ?_
      refine wr_nil ?_
      exact ⟨(Sub.cons rfl (Sub.cons rfl (Sub.cons rfl (Sub.to rfl (mb (by first | omega | exact ⟨fun h => ⟨(by assumption), h⟩, fun h => h.2⟩ | exact .inl (by assumption) | exact ⟨.inr, fun h => h.resolve_left (by assumption)⟩ | exact ⟨fun h => h.resolve_left (by assumption), .inr⟩ | simp [*])) Sub.nil)))), fun _ h => h⟩
  refine wr_setF 15 rfl (by omega) ?_
  refine wr_y rfl (y_move rfl) ?_
  refine wr_yes rfl rfl ?_
  refine wr_y rfl (y_move rfl) ?_
  refine wr_yes rfl rfl ?_
  refine wr_y rfl (y_lt rfl rfl) ?_
  refine wr_y rfl (y_pickF rfl rfl) ?_
  refine wr_y rfl (y_move rfl) ?_
  refine wr_mid 5 [(0, .slice A_u u.length c_u), (1, .int .i64 i), (2, .int .i64 j), (25, .bool (decide ((j < 0) ∨ (((u.length : Nat) : Int) < j))))] [] ?_ ?_
  ·
    refine wr_case 20 rfl (fun hc2 => ?_) (fun hc2 => ?_)
    ·
      refine wr_no rfl rfl rfl rfl ?_
      refine wr_no rfl rfl rfl rfl ?_
      refine wr_no rfl rfl rfl rfl ?_
      refine wr_no rfl rfl rfl rfl ?_
      refine wr_y rfl (y_pickT rfl rfl) ?_
      refine wr_nil ?_
      exact ⟨(Sub.cons rfl (Sub.cons rfl (Sub.cons rfl (Sub.to rfl (mb_t (by first | omega | exact ⟨fun h => ⟨(by assumption), h⟩, fun h => h.2⟩ | exact .inl (by assumption) | exact ⟨.inr, fun h => h.resolve_left (by assumption)⟩ | exact ⟨fun h => h.resolve_left (by assumption), .inr⟩ | simp [*])) Sub.nil)))), fun _ h => h⟩
    ·
      refine wr_yes rfl rfl ?_
      refine wr_y rfl (y_move rfl) ?_
      refine wr_yes rfl rfl ?_
      refine wr_y rfl (y_move rfl) ?_
      refine wr_yes rfl rfl ?_
      refine wr_y rfl (y_len Tryz.underlying23 rfl) ?_
      refine wr_yes rfl rfl ?_
      refine wr_y rfl (y_gt rfl rfl) ?_
      refine wr_y rfl (y_pickF rfl rfl) ?_
      refine wr_nil ?_
      exact ⟨(Sub.cons rfl (Sub.cons rfl (Sub.cons rfl (Sub.to rfl (mb (by first | omega | exact ⟨fun h => ⟨(by assumption), h⟩, fun h => h.2⟩ | exact .inl (by assumption) | exact ⟨.inr, fun h => h.resolve_left (by assumption)⟩ | exact ⟨fun h => h.resolve_left (by assumption), .inr⟩ | simp [*])) Sub.nil)))), fun _ h => h⟩
  refine wr_setF 25 rfl (by omega) ?_
  refine wr_nil ?_
  refine w_false rfl ?_
  refine w_skip ?_
  refine w_seq ?_
  refine w_reg ?_
  refine wr_y rfl (y_assign rfl) ?_
  refine wr_nil ?_
  refine w_seq ?_
  refine w_block ?_
  refine w_loop1 (fun (m : Int) => [(0, .slice A_u u.length c_u), (1, .int .i64 i), (2, .int .i64 j), (7, .int .i64 m)]) (fun (m : Int) => []) (fun (m : Int) => (0 ≤ m) ∧ (m.toNat ≤ com u i j)) (fun (m : Int) => (u.length - m).toNat) ?_ ?_
  ·
    exact ⟨0, ⟨(by omega), (Nat.zero_le _)⟩, (Sub.cons rfl (Sub.cons rfl (Sub.cons rfl (Sub.cons rfl Sub.nil)))), fun _ h => h⟩
  intro m ⟨hm0, hmc⟩
  have hmb : m ≤ u.length := by omega
  refine w_seq ?_
  refine w_join0 [(0, .slice A_u u.length c_u), (1, .int .i64 i), (2, .int .i64 j), (7, .int .i64 m), (48, .bool (decide ((((max i j) + m) < ((u.length : Nat) : Int)) ∧ ((rd u (i + m)) = (rd u (j + m))))))] [] ?_ ?_
  ·
    refine w_regd mixed ?_
    refine wd_y 0 rfl (by kernel_rfl) rfl (y_move rfl) ?_
    refine wd_y 1 rfl (by kernel_rfl) rfl (y_move rfl) ?_
    refine wd_y 2 rfl (by kernel_rfl) rfl (y_max rfl rfl) ?_
    refine wd_y 3 rfl (by kernel_rfl) rfl (y_move rfl) ?_
    refine wd_y 4 rfl (by kernel_rfl) rfl (y_addI rfl rfl (by omega)) ?_
    refine wd_y 5 rfl (by kernel_rfl) rfl (y_move rfl) ?_
    refine wd_y 6 rfl (by kernel_rfl) rfl (y_len Tryz.underlying23 rfl) ?_
    refine wd_y 7 rfl (by kernel_rfl) rfl (y_lt rfl rfl) ?_
    refine wd_y 8 rfl (by kernel_rfl) rfl (y_move rfl) ?_
    refine wd_case 34 rfl (fun hc3 => ?_) (fun hc3 => ?_)
    ·
      refine wd_yg 9 rfl (by kernel_rfl) rfl rfl rfl (y_move rfl) ?_
      refine wd_yg 10 rfl (by kernel_rfl) rfl rfl rfl (y_move rfl) ?_
      refine wd_yg 11 rfl (by kernel_rfl) rfl rfl rfl (y_move rfl) ?_
      refine wd_yg 12 rfl (by kernel_rfl) rfl rfl rfl (y_addI rfl rfl (by omega)) ?_
      refine wd_yg 13 rfl (by kernel_rfl) rfl rfl rfl (y_index1 Tryz.underlying23 sz5 rfl rfl (h_u.c _) (by omega) (by omega)) ?_
      refine wd_yg 14 rfl (by kernel_rfl) rfl rfl rfl (y_ldI Tryz.underlying5 rfl rfl (h_u.c _) (by omega) (by omega)) ?_
      refine wd_yg 15 rfl (by kernel_rfl) rfl rfl rfl (y_move rfl) ?_
      refine wd_yg 16 rfl (by kernel_rfl) rfl rfl rfl (y_move rfl) ?_
      refine wd_yg 17 rfl (by kernel_rfl) rfl rfl rfl (y_move rfl) ?_
      refine wd_yg 18 rfl (by kernel_rfl) rfl rfl rfl (y_addI rfl rfl (by omega)) ?_
      refine wd_yg 19 rfl (by kernel_rfl) rfl rfl rfl (y_index1 Tryz.underlying23 sz5 rfl rfl (h_u.c _) (by omega) (by omega)) ?_
      refine wd_yg 20 rfl (by kernel_rfl) rfl rfl rfl (y_ldI Tryz.underlying5 rfl rfl (h_u.c _) (by omega) (by omega)) ?_
      refine wd_yg 21 rfl (by kernel_rfl) rfl rfl rfl (y_eq rfl rfl) ?_
      refine wd_y 22 rfl (by kernel_rfl) rfl (y_pickT rfl rfl) ?_
      refine wd_nil (by kernel_rfl) ?_
      exact ⟨(Sub.cons rfl (Sub.cons rfl (Sub.cons rfl (Sub.cons rfl (Sub.to rfl (mb (by first | omega | exact ⟨fun h => ⟨(by assumption), h⟩, fun h => h.2⟩ | exact .inl (by assumption) | exact ⟨.inr, fun h => h.resolve_left (by assumption)⟩ | exact ⟨fun h => h.resolve_left (by assumption), .inr⟩ | simp [*])) Sub.nil))))), fun _ h => h⟩
    ·
      refine wd_no 9 rfl (by kernel_rfl) rfl rfl rfl rfl ?_
      refine wd_no 10 rfl (by kernel_rfl) rfl rfl rfl rfl ?_
      refine wd_no 11 rfl (by kernel_rfl) rfl rfl rfl rfl ?_
      refine wd_no 12 rfl (by kernel_rfl) rfl rfl rfl rfl ?_
      refine wd_no 13 rfl (by kernel_rfl) rfl rfl rfl rfl ?_
      refine wd_no 14 rfl (by kernel_rfl) rfl rfl rfl rfl ?_
      refine wd_no 15 rfl (by kernel_rfl) rfl rfl rfl rfl ?_
      refine wd_no 16 rfl (by kernel_rfl) rfl rfl rfl rfl ?_
      refine wd_no 17 rfl (by kernel_rfl) rfl rfl rfl rfl ?_
      refine wd_no 18 rfl (by kernel_rfl) rfl rfl rfl rfl ?_
      refine wd_no 19 rfl (by kernel_rfl) rfl rfl rfl rfl ?_
      refine wd_no 20 rfl (by kernel_rfl) rfl rfl rfl rfl ?_
      refine wd_no 21 rfl (by kernel_rfl) rfl rfl rfl rfl ?_
      refine wd_y 22 rfl (by kernel_rfl) rfl (y_pickF rfl rfl) ?_
      refine wd_nil (by kernel_rfl) ?_
      exact ⟨(Sub.cons rfl (Sub.cons rfl (Sub.cons rfl (Sub.cons rfl (Sub.to rfl (mb_f (by first | omega | exact ⟨fun h => ⟨(by assumption), h⟩, fun h => h.2⟩ | exact .inl (by assumption) | exact ⟨.inr, fun h => h.resolve_left (by assumption)⟩ | exact ⟨fun h => h.resolve_left (by assumption), .inr⟩ | simp [*])) Sub.nil))))), fun _ h => h⟩
  refine w_if rfl (fun hc4 => ?_) (fun hc4 => ?_)
  ·
    refine w_skip ?_
    refine w_block ?_
    refine w_reg ?_
    refine wr_y rfl (y_move rfl) ?_
    refine wr_y rfl (y_addI rfl rfl (by omega)) ?_
    refine wr_y rfl (y_assign rfl) ?_
    refine wr_nil ?_
    exact ⟨m + 1, ⟨(by omega), (com_up hij.1.1 hij.2.1 hm0 hmc (by assumption))⟩, (by omega), (Sub.cons rfl (Sub.cons rfl (Sub.cons rfl (Sub.cons rfl Sub.nil)))), fun _ h => h⟩
  ·
    refine w_exit ?_
    refine w_seq ?_
    refine w_reg ?_
    refine wr_y rfl (y_move rfl) ?_
    refine wr_y rfl (y_assign rfl) ?_
    refine wr_nil ?_
    refine w_ret ?_
    refine ⟨_, rfl, ?_⟩
    exact congrArg (Value.int .i64) (com_stop hij.1.1 hij.2.1 hm0 hmc (by assumption))

set_option maxRecDepth 100000 in
theorem lcp17r_ct {w : World} {A_u : Option Addr} {n_u c_u : Nat} {u : List Int} {A_a : Option Addr} {n_a c_a : Nat} {a : List Int} (h_u : Rd w A_u n_u c_u 1 (ints .u8 u)) (h_a : Rd w A_a n_a c_a 1 (ints .i64 a)) (hap : a.Perm (iota u.length)) (hN : u.length ≤ 1000000) :
    Ct Tryz.prog 29 #[.slice A_u n_u c_u, .slice A_a n_a c_a] w.heap.size w [] (fun v R' => ∃ A c, v = .tuple #[.slice A a.length c, .bool true] ∧ R' = [⟨3, 1, A, a.length, c, ints .i64 (lcpV u a), false⟩]) := by
  obtain rfl := h_u.lenI
  obtain rfl := h_a.lenI
  refine fn2 Tryz.func29 rfl rfl rfl ?_
  have m_u := h_u.max
  have m_a := h_a.max
  have hal : a.length = u.length := by rw [hap.length_eq, iota_len]
  refine w_seq ?_
  refine w_reg ?_
  refine wr_y rfl (y_assign rfl) ?_
  refine wr_y rfl (y_assign rfl) ?_
  refine wr_nil ?_
  refine w_seq ?_
  refine w_seq ?_
  refine w_reg ?_
  refine wr_y rfl (y_move rfl) ?_
  refine wr_y rfl (y_len Tryz.underlying24 rfl) ?_
  refine wr_y rfl (y_move rfl) ?_
  refine wr_y rfl (y_len Tryz.underlying23 rfl) ?_
  refine wr_y rfl (y_ne rfl rfl) ?_
  refine wr_y rfl (y_move rfl) ?_
  refine wr_mid 4 [(0, .slice A_u u.length c_u), (1, .slice A_a a.length c_a), (17, .bool (decide (((a.length : Nat) : Int) ≠ ((u.length : Nat) : Int))))] [] ?_ ?_
  ·
    refine wr_case 13 rfl (fun hc1 => ?_) (fun hc1 => ?_)
    ·
      refine wr_no rfl rfl rfl rfl ?_
      refine wr_no rfl rfl rfl rfl ?_
      refine wr_no rfl rfl rfl rfl ?_
      refine wr_y rfl (y_pickT rfl rfl) ?_
      refine wr_nil ?_
      exact ⟨(Sub.cons rfl (Sub.cons rfl (Sub.to rfl (mb_t (by first | omega | exact ⟨fun h => ⟨(by assumption), h⟩, fun h => h.2⟩ | exact .inl (by assumption) | exact ⟨.inr, fun h => h.resolve_left (by assumption)⟩ | exact ⟨fun h => h.resolve_left (by assumption), .inr⟩ | simp [*])) Sub.nil))), fun _ h => h⟩
    ·
      refine wr_yes rfl rfl ?_
      refine wr_y rfl (y_move rfl) ?_
      refine wr_yes rfl rfl ?_
      refine wr_a rfl (a_callF en75 rfl (Ct.quiet (fun w hw => is16_ct ((h_a.c _) w hw) (perm_self hap) (by omega)))) ?_
      rintro _ _ ⟨rfl, rfl⟩
      refine wr_yes rfl rfl ?_
      refine wr_y rfl (y_not rfl) ?_
      refine wr_y rfl (y_pickF rfl rfl) ?_
      refine wr_nil ?_
      exact ⟨(Sub.cons rfl (Sub.cons rfl (Sub.to rfl (mb_f (by first | omega | exact ⟨fun h => ⟨(by assumption), h⟩, fun h => h.2⟩ | exact .inl (by assumption) | exact ⟨.inr, fun h => h.resolve_left (by assumption)⟩ | exact ⟨fun h => h.resolve_left (by assumption), .inr⟩ | simp [*])) Sub.nil))), fun _ h => h⟩
  refine wr_setF 17 rfl (by omega) ?_
  refine wr_nil ?_
  refine w_false rfl ?_
  refine w_skip ?_
  refine w_seq ?_
  refine w_reg ?_
  refine wr_y rfl (y_move rfl) ?_
  refine wr_y rfl (y_len Tryz.underlying24 rfl) ?_
  refine wr_a rfl (a_makeN Tryz.underlying24 zb3 rfl rfl (by omega) (by omega) (by omega)) ?_
  rintro _ _ ⟨g_1, rfl, rfl⟩
  refine wr_rows (R1 := [⟨3, 1, (some ⟨g_1, 0, none⟩), a.length, a.length, ints .i64 (List.replicate a.length (0 : Int)), false⟩]) rfl ?_
  refine wr_as (v := .slice (some ⟨g_1, 0, none⟩) a.length a.length) rfl ?_
  refine wr_y rfl (y_assign rfl) ?_
  refine wr_nil ?_
  refine w_seq ?_
  refine w_seq ?_
  refine w_reg ?_
  refine wr_y rfl (y_assign rfl) ?_
  refine wr_nil ?_
  refine w_block ?_
  refine w_loop2 (fun (i : Int) (V : List Int) => [(0, .slice A_u u.length c_u), (1, .slice A_a a.length c_a), (6, .slice (some ⟨g_1, 0, none⟩) a.length a.length), (7, .int .i64 i)]) (fun (i : Int) (V : List Int) => [⟨3, 1, (some ⟨g_1, 0, none⟩), a.length, a.length, ints .i64 V, false⟩]) (fun (i : Int) (V : List Int) => (1 ≤ i) ∧ (i ≤ a.length ∨ i = 1) ∧ (V.length = a.length) ∧ (∀ p : Int, 0 ≤ p → p < i → p < a.length → rd V p = rd (lcpV u a) p)) (fun (i : Int) (V : List Int) => (a.length + 1 - i).toNat) ?_ ?_
  ·
    exact ⟨1, List.replicate a.length (0 : Int), ⟨(by omega), (by omega), (List.length_replicate), (lcpV_init)⟩, (Sub.cons rfl (Sub.cons rfl (Sub.cons rfl (Sub.cons rfl Sub.nil)))), fun _ h => h⟩
  intro i V ⟨hi1, hi2, hVl, hV⟩
  refine w_seq ?_
  refine w_seq ?_
  refine w_reg ?_
  refine wr_y rfl (y_move rfl) ?_
  refine wr_y rfl (y_move rfl) ?_
  refine wr_y rfl (y_len Tryz.underlying24 rfl) ?_
  refine wr_y rfl (y_lt rfl rfl) ?_
  refine wr_nil ?_
  refine w_if rfl (fun hc2 => ?_) (fun hc2 => ?_)
  ·
    have hx := mem_iota.1 (hap.subset (rd_mem (L := a) (k := i - 1) (by omega) (by omega)))
    have hy := mem_iota.1 (hap.subset (rd_mem (L := a) (k := i) (by omega) (by omega)))
    refine w_skip ?_
    refine w_seq ?_
    refine w_block ?_
    refine w_regd mixed ?_
    refine wd_y 0 rfl (by kernel_rfl) rfl (y_move rfl) ?_
    refine wd_y 1 rfl (by kernel_rfl) rfl (y_move rfl) ?_
    refine wd_y 2 rfl (by kernel_rfl) rfl (y_move rfl) ?_
    refine wd_y 3 rfl (by kernel_rfl) rfl (y_move rfl) ?_
    refine wd_y 4 rfl (by kernel_rfl) rfl (y_move rfl) ?_
    refine wd_y 5 rfl (by kernel_rfl) rfl (y_subI rfl rfl (by omega)) ?_
    refine wd_y 6 rfl (by kernel_rfl) rfl (y_index1 Tryz.underlying24 sz3 rfl rfl (h_a.c _) (by omega) (by omega)) ?_
    refine wd_y 7 rfl (by kernel_rfl) rfl (y_ldI Tryz.underlying3 rfl rfl (h_a.c _) (by omega) (by omega)) ?_
    refine wd_y 8 rfl (by kernel_rfl) rfl (y_move rfl) ?_
    refine wd_y 9 rfl (by kernel_rfl) rfl (y_move rfl) ?_
    refine wd_y 10 rfl (by kernel_rfl) rfl (y_index1 Tryz.underlying24 sz3 rfl rfl (h_a.c _) (by omega) (by omega)) ?_
    refine wd_y 11 rfl (by kernel_rfl) rfl (y_ldI Tryz.underlying3 rfl rfl (h_a.c _) (by omega) (by omega)) ?_
    refine wd_a 12 rfl (by kernel_rfl) rfl (a_callF en76 rfl (Ct.quiet (fun w hw => common4r_ct ((h_u.c _) w hw) ⟨by omega, by omega⟩ hN))) ?_
    rintro _ _ ⟨rfl, rfl⟩
    refine ⟨.inr fun _ h => h, ?_⟩
    refine wd_y 13 rfl (by kernel_rfl) rfl (y_index1 Tryz.underlying24 sz3 rfl rfl (rdr 0 rfl) (by omega) (by omega)) ?_
    refine wd_n 14 rfl (by kernel_rfl) (a_storeI 0 rfl sz3 rfl rfl (by omega) (by omega)) ?_
    rintro _ _ rfl
    refine ⟨.inl (by kernel_rfl), ?_⟩
    refine wd_rows (R1 := [⟨3, 1, (some ⟨g_1, 0, none⟩), a.length, a.length, ints .i64 (upd V i (com u (rd a (i - 1)) (rd a i) : Int)), false⟩]) rfl ?_
    refine wd_nil (by kernel_rfl) ?_
    refine w_reg ?_
    refine wr_y rfl (y_move rfl) ?_
    refine wr_y rfl (y_addI rfl rfl (by omega)) ?_
    refine wr_y rfl (y_assign rfl) ?_
    refine wr_nil ?_
    exact ⟨i + 1, upd V i (com u (rd a (i - 1)) (rd a i) : Int), ⟨(by omega), (by omega), (by rw [upd_length, hVl]), (lcpV_put hV hVl hi1 (by omega) rfl)⟩, (by omega), (Sub.cons rfl (Sub.cons rfl (Sub.cons rfl (Sub.cons rfl Sub.nil)))), fun _ h => h⟩
  ·
    refine w_exit ?_
    refine w_seq ?_
    refine w_reg ?_
    refine wr_y rfl (y_move rfl) ?_
    refine wr_y rfl (y_assign rfl) ?_
    refine wr_y rfl (y_assign rfl) ?_
    refine wr_nil ?_
    refine w_retR (R1 := [⟨3, 1, (some ⟨g_1, 0, none⟩), a.length, a.length, ints .i64 V, false⟩]) (fun _ h => h.sel [0] (by decide) rfl) ?_
    refine ⟨_, _, rfl, rfl, ?_⟩
    obtain rfl : V = lcpV u a := list_ext_rd (by rw [hVl, lcpV_len]) fun p p0 p1 => hV p p0 (by omega) (by omega)
    exact ⟨_, _, rfl, rfl⟩

set_option maxRecDepth 100000 in
set_option maxHeartbeats 2000000 in
theorem crossRuns20_ct {w : World} {A_u : Option Addr} {n_u c_u : Nat} {u : List Int} (h_u : Rd w A_u n_u c_u 1 (ints .u8 u)) (bh_u : ByteL u) :
    Ct Tryz.prog 5 #[.slice A_u n_u c_u] w.heap.size w [] (fun v R' => v = .bool true) := by
  obtain rfl := h_u.lenI
  refine fn1 Tryz.func5 rfl rfl rfl ?_
  have m_u := h_u.max
  have hln : ([] ++ u : List Int).length = u.length := rfl
  refine w_seq ?_
  refine w_reg ?_
  refine wr_y rfl (y_assign rfl) ?_
  refine wr_nil ?_
  refine w_seq ?_
  refine w_seq ?_
  refine w_reg ?_
  refine wr_y rfl (y_move rfl) ?_
  refine wr_y rfl (y_len Tryz.underlying23 rfl) ?_
  refine wr_y rfl (y_gt rfl rfl) ?_
  refine wr_nil ?_
  refine w_if rfl (fun hc1 => ?_) (fun hc1 => ?_)
  ·
    refine w_seq ?_
    refine w_reg ?_
    refine wr_y rfl (y_assign rfl) ?_
    refine wr_nil ?_
    refine w_ret ?_
    refine ⟨_, rfl, ?_⟩
    rfl
  ·
    refine w_skip ?_
    refine w_seq ?_
    refine w_reg ?_
    refine wr_a rfl (a_callF en26 rfl (Ct.fresh (fun w hw => crossNew_ct))) ?_
    rintro _ _ ⟨_, rfl, g_1, rfl, rfl⟩
    refine wr_y rfl (y_assign rfl) ?_
    refine wr_nil ?_
    refine w_seq ?_
    refine w_seq ?_
    refine w_reg ?_
    refine wr_y rfl (y_move rfl) ?_
    refine wr_y rfl (y_ptrEq Tryz.underlying45 rfl rfl) ?_
    refine wr_nil ?_
    refine w_false rfl ?_
    refine w_skip ?_
    refine w_seq ?_
    refine w_reg ?_
    refine wr_y rfl (y_move rfl) ?_
    refine wr_y rfl (y_move rfl) ?_
    refine wr_a rfl (a_callF en27 rfl (Ct.sub (R1 := [⟨114, 3, (some ⟨g_1, 0, none⟩), 1, 1, [.int .i64 0, .int .i64 0, .int .i64 0], false⟩]) (fun _ h => h) (crossRun_ct (h_u.c _) (by first | rfl | (simp; done) | omega) bh_u (by omega) (by decide)))) ?_
    rintro _ _ ⟨b1, A_2, A_4, c_3, c_5, rfl, hp_b1, hs_b1, rfl⟩
    refine wr_y rfl (y_move rfl) ?_
    refine wr_y rfl (y_extract rfl rfl) ?_
    refine wr_y rfl (y_extract rfl rfl) ?_
    refine wr_a rfl (a_alloc (sz := 3) zz48 rfl) ?_
    rintro _ _ ⟨g_9, rfl, rfl⟩
    refine wr_rows (R1 := [⟨48, 3, (some ⟨g_9, 0, none⟩), 1, 1, [.slice none 0 0, .slice none 0 0, .bool false], false⟩, ⟨3, 1, A_2, u.length, c_3, ints .i64 b1, false⟩, ⟨3, 1, A_4, u.length, c_5, ints .i64 (lcpV u b1), false⟩, ⟨114, 3, (some ⟨g_1, 0, none⟩), 1, 1, [.int .i64 (0 + 1), .int .i64 (0 + 1), .int .i64 (0 + 1)], false⟩]) rfl ?_
    refine wr_n (a_storeAll (vs := [.slice A_2 u.length c_3, .slice A_4 u.length c_5, .bool true]) 0 rfl sz48 rfl rfl rfl (by intro v hv; simp at hv; rcases hv with rfl | rfl | rfl <;> rfl) rfl) ?_
    rintro _ _ rfl
    refine wr_rows (R1 := [⟨48, 3, (some ⟨g_9, 0, none⟩), 1, 1, [.slice A_2 u.length c_3, .slice A_4 u.length c_5, .bool true], false⟩, ⟨3, 1, A_2, u.length, c_3, ints .i64 b1, false⟩, ⟨3, 1, A_4, u.length, c_5, ints .i64 (lcpV u b1), false⟩, ⟨114, 3, (some ⟨g_1, 0, none⟩), 1, 1, [.int .i64 (0 + 1), .int .i64 (0 + 1), .int .i64 (0 + 1)], false⟩]) rfl ?_
    refine wr_y rfl (y_assign rfl) ?_
    refine wr_nil ?_
    refine w_seq ?_
    refine w_reg ?_
    refine wr_y rfl (y_move rfl) ?_
    refine wr_a rfl (a_callF en28 rfl (Ct.fresh (fun w hw => bytes13_ct ((h_u.c _) w hw) bh_u (by omega)))) ?_
    rintro _ _ ⟨_, rfl, b2, A_10, c_11, rfl, hp_b2, hs_b2, rfl⟩
    refine wr_y rfl (y_assign rfl) ?_
    refine wr_nil ?_
    refine w_seq ?_
    refine w_reg ?_
    refine wr_y rfl (y_move rfl) ?_
    refine wr_y rfl (y_move rfl) ?_
    refine wr_a rfl (a_callF en29 rfl (Ct.fresh (fun w hw => lcp17r_ct ((h_u.c _) w hw) ((rdr 0 rfl) w hw) hp_b2 (by omega)))) ?_
    rintro _ _ ⟨_, rfl, A_13, c_14, rfl, rfl⟩
    refine wr_y rfl (y_move rfl) ?_
    refine wr_y rfl (y_extract rfl rfl) ?_
    refine wr_y rfl (y_extract rfl rfl) ?_
    refine wr_y rfl (y_assign rfl) ?_
    refine wr_y rfl (y_assign rfl) ?_
    refine wr_nil ?_
    refine w_seq ?_
    refine w_reg ?_
    refine wr_y rfl (y_move rfl) ?_
    refine wr_y rfl (y_eq rfl rfl) ?_
    refine wr_y rfl (y_move rfl) ?_
    refine wr_mid 3 [(4, .pointer (some ⟨g_9, 0, none⟩)), (6, .slice A_10 u.length c_11), (7, .slice A_13 ((b2).length) c_14), (34, .bool (decide (0 = 0)))] [⟨3, 1, A_13, ((b2).length), c_14, ints .i64 (lcpV u b2), false⟩, ⟨3, 1, A_10, u.length, c_11, ints .i64 b2, false⟩, ⟨48, 3, (some ⟨g_9, 0, none⟩), 1, 1, [.slice A_2 u.length c_3, .slice A_4 u.length c_5, .bool true], false⟩, ⟨3, 1, A_2, u.length, c_3, ints .i64 b1, false⟩, ⟨3, 1, A_4, u.length, c_5, ints .i64 (lcpV u b1), false⟩, ⟨114, 3, (some ⟨g_1, 0, none⟩), 1, 1, [.int .i64 (0 + 1), .int .i64 (0 + 1), .int .i64 (0 + 1)], false⟩] ?_ ?_
    ·
      refine wr_case 31 rfl (fun hc2 => ?_) (fun hc2 => ?_)
      ·
        refine wr_yes rfl rfl ?_
        refine wr_y rfl (y_fieldAt (off := 2) (m := 2) Tryz.underlying48 rfl sz4 rfl rfl rfl) ?_
        refine wr_yes rfl rfl ?_
        refine wr_y rfl (y_ldIn (rdR 2 (r := ⟨48, 3, (some ⟨g_9, 0, none⟩), 1, 1, [.slice A_2 u.length c_3, .slice A_4 u.length c_5, .bool true], false⟩) rfl) Tryz.underlying4 rfl rfl rfl) ?_
        refine wr_y rfl (y_pickT rfl rfl) ?_
        refine wr_nil ?_
        exact ⟨(Sub.cons rfl (Sub.cons rfl (Sub.cons rfl (Sub.to rfl (mb_t (by first | omega | exact ⟨fun h => ⟨(by assumption), h⟩, fun h => h.2⟩ | exact .inl (by assumption) | exact ⟨.inr, fun h => h.resolve_left (by assumption)⟩ | exact ⟨fun h => h.resolve_left (by assumption), .inr⟩ | simp [*])) Sub.nil)))), fun _ h => h⟩
      ·
        refine wr_no rfl rfl rfl rfl ?_
        refine wr_no rfl rfl rfl rfl ?_
        refine wr_y rfl (y_pickF rfl rfl) ?_
        refine wr_nil ?_
        exact ⟨(Sub.cons rfl (Sub.cons rfl (Sub.cons rfl (Sub.to rfl (mb_f (by first | omega | exact ⟨fun h => ⟨(by assumption), h⟩, fun h => h.2⟩ | exact .inl (by assumption) | exact ⟨.inr, fun h => h.resolve_left (by assumption)⟩ | exact ⟨fun h => h.resolve_left (by assumption), .inr⟩ | simp [*])) Sub.nil)))), fun _ h => h⟩
    refine wr_y rfl (y_move rfl) ?_
    refine wr_mid 5 [(4, .pointer (some ⟨g_9, 0, none⟩)), (7, .slice A_13 ((b2).length) c_14), (40, .bool (decide (0 = 0)))] [⟨3, 1, A_13, ((b2).length), c_14, ints .i64 (lcpV u b2), false⟩, ⟨3, 1, A_10, u.length, c_11, ints .i64 b2, false⟩, ⟨48, 3, (some ⟨g_9, 0, none⟩), 1, 1, [.slice A_2 u.length c_3, .slice A_4 u.length c_5, .bool true], false⟩, ⟨3, 1, A_2, u.length, c_3, ints .i64 b1, false⟩, ⟨3, 1, A_4, u.length, c_5, ints .i64 (lcpV u b1), false⟩, ⟨114, 3, (some ⟨g_1, 0, none⟩), 1, 1, [.int .i64 (0 + 1), .int .i64 (0 + 1), .int .i64 (0 + 1)], false⟩] ?_ ?_
    ·
      refine wr_case 35 rfl (fun hc3 => ?_) (fun hc3 => ?_)
      ·
        refine wr_yes rfl rfl ?_
        refine wr_y rfl (y_fieldAt (off := 0) (m := 0) Tryz.underlying48 rfl sz24 rfl rfl rfl) ?_
        refine wr_yes rfl rfl ?_
        refine wr_y rfl (y_ldIn (rdR 2 (r := ⟨48, 3, (some ⟨g_9, 0, none⟩), 1, 1, [.slice A_2 u.length c_3, .slice A_4 u.length c_5, .bool true], false⟩) rfl) Tryz.underlying24 rfl rfl rfl) ?_
        refine wr_yes rfl rfl ?_
        refine wr_y rfl (y_move rfl) ?_
        refine wr_yes rfl rfl ?_
        refine wr_a rfl (a_callF en30 rfl (Ct.quiet (fun w hw => ints4_ct ((rdr 3 rfl) w hw) ((rdr 1 rfl) w hw) (by rw [hp_b1.length_eq, iota_len]; omega)))) ?_
        rintro _ _ ⟨rfl, rfl⟩
        refine wr_setT 39 rfl (one_orderE hp_b1 hp_b2 hs_b1 hs_b2) ?_
        refine wr_y rfl (y_pickT rfl rfl) ?_
        refine wr_nil ?_
        exact ⟨(Sub.cons rfl (Sub.cons rfl (Sub.to rfl (mb_t (by first | omega | exact ⟨fun h => ⟨(by assumption), h⟩, fun h => h.2⟩ | exact .inl (by assumption) | exact ⟨.inr, fun h => h.resolve_left (by assumption)⟩ | exact ⟨fun h => h.resolve_left (by assumption), .inr⟩ | simp [*])) Sub.nil))), fun _ h => h⟩
      ·
        refine wr_no rfl rfl rfl rfl ?_
        refine wr_no rfl rfl rfl rfl ?_
        refine wr_no rfl rfl rfl rfl ?_
        refine wr_no rfl rfl rfl rfl ?_
        refine wr_y rfl (y_pickF rfl rfl) ?_
        refine wr_nil ?_
        exact ⟨(Sub.cons rfl (Sub.cons rfl (Sub.to rfl (mb_f (by first | omega | exact ⟨fun h => ⟨(by assumption), h⟩, fun h => h.2⟩ | exact .inl (by assumption) | exact ⟨.inr, fun h => h.resolve_left (by assumption)⟩ | exact ⟨fun h => h.resolve_left (by assumption), .inr⟩ | simp [*])) Sub.nil))), fun _ h => h⟩
    refine wr_y rfl (y_move rfl) ?_
    refine wr_mid 5 [(46, .bool (decide (0 = 0)))] [⟨3, 1, A_13, ((b2).length), c_14, ints .i64 (lcpV u b2), false⟩, ⟨3, 1, A_10, u.length, c_11, ints .i64 b2, false⟩, ⟨48, 3, (some ⟨g_9, 0, none⟩), 1, 1, [.slice A_2 u.length c_3, .slice A_4 u.length c_5, .bool true], false⟩, ⟨3, 1, A_2, u.length, c_3, ints .i64 b1, false⟩, ⟨3, 1, A_4, u.length, c_5, ints .i64 (lcpV u b1), false⟩, ⟨114, 3, (some ⟨g_1, 0, none⟩), 1, 1, [.int .i64 (0 + 1), .int .i64 (0 + 1), .int .i64 (0 + 1)], false⟩] ?_ ?_
    ·
      refine wr_case 41 rfl (fun hc4 => ?_) (fun hc4 => ?_)
      ·
        refine wr_yes rfl rfl ?_
        refine wr_y rfl (y_fieldAt (off := 1) (m := 1) Tryz.underlying48 rfl sz24 rfl rfl rfl) ?_
        refine wr_yes rfl rfl ?_
        refine wr_y rfl (y_ldIn (rdR 2 (r := ⟨48, 3, (some ⟨g_9, 0, none⟩), 1, 1, [.slice A_2 u.length c_3, .slice A_4 u.length c_5, .bool true], false⟩) rfl) Tryz.underlying24 rfl rfl rfl) ?_
        refine wr_yes rfl rfl ?_
        refine wr_y rfl (y_move rfl) ?_
        refine wr_yes rfl rfl ?_
        refine wr_a rfl (a_callF en30 rfl (Ct.quiet (fun w hw => ints4_ct ((rdr 4 rfl) w hw) ((rdr 0 rfl) w hw) (by rw [lcpV_len, hp_b1.length_eq, iota_len]; omega)))) ?_
        rintro _ _ ⟨rfl, rfl⟩
        refine wr_setT 45 rfl (by rw [one_orderE hp_b1 hp_b2 hs_b1 hs_b2]) ?_
        refine wr_y rfl (y_pickT rfl rfl) ?_
        refine wr_nil ?_
        exact ⟨(Sub.to rfl (mb_t (by first | omega | exact ⟨fun h => ⟨(by assumption), h⟩, fun h => h.2⟩ | exact .inl (by assumption) | exact ⟨.inr, fun h => h.resolve_left (by assumption)⟩ | exact ⟨fun h => h.resolve_left (by assumption), .inr⟩ | simp [*])) Sub.nil), fun _ h => h⟩
      ·
        refine wr_no rfl rfl rfl rfl ?_
        refine wr_no rfl rfl rfl rfl ?_
        refine wr_no rfl rfl rfl rfl ?_
        refine wr_no rfl rfl rfl rfl ?_
        refine wr_y rfl (y_pickF rfl rfl) ?_
        refine wr_nil ?_
        exact ⟨(Sub.to rfl (mb_f (by first | omega | exact ⟨fun h => ⟨(by assumption), h⟩, fun h => h.2⟩ | exact .inl (by assumption) | exact ⟨.inr, fun h => h.resolve_left (by assumption)⟩ | exact ⟨fun h => h.resolve_left (by assumption), .inr⟩ | simp [*])) Sub.nil), fun _ h => h⟩
    refine wr_y rfl (y_move rfl) ?_
    refine wr_mid 2 [(49, .bool (decide (0 = 0)))] [⟨3, 1, A_13, ((b2).length), c_14, ints .i64 (lcpV u b2), false⟩, ⟨3, 1, A_10, u.length, c_11, ints .i64 b2, false⟩, ⟨48, 3, (some ⟨g_9, 0, none⟩), 1, 1, [.slice A_2 u.length c_3, .slice A_4 u.length c_5, .bool true], false⟩, ⟨3, 1, A_2, u.length, c_3, ints .i64 b1, false⟩, ⟨3, 1, A_4, u.length, c_5, ints .i64 (lcpV u b1), false⟩, ⟨114, 3, (some ⟨g_1, 0, none⟩), 1, 1, [.int .i64 (0 + 1), .int .i64 (0 + 1), .int .i64 (0 + 1)], false⟩] ?_ ?_
    ·
      refine wr_case 47 rfl (fun hc5 => ?_) (fun hc5 => ?_)
      ·
        refine wr_yes rfl rfl ?_
        refine wr_a rfl (a_callF en31 rfl (Ct.quiet (fun w hw => known20_ct))) ?_
        rintro _ _ ⟨rfl, rfl⟩
        refine wr_setT 48 rfl (trivial) ?_
        refine wr_y rfl (y_pickT rfl rfl) ?_
        refine wr_nil ?_
        exact ⟨(Sub.to rfl (mb_t (by first | omega | exact ⟨fun h => ⟨(by assumption), h⟩, fun h => h.2⟩ | exact .inl (by assumption) | exact ⟨.inr, fun h => h.resolve_left (by assumption)⟩ | exact ⟨fun h => h.resolve_left (by assumption), .inr⟩ | simp [*])) Sub.nil), fun _ h => h⟩
      ·
        refine wr_no rfl rfl rfl rfl ?_
        refine wr_y rfl (y_pickF rfl rfl) ?_
        refine wr_nil ?_
        exact ⟨(Sub.to rfl (mb_f (by first | omega | exact ⟨fun h => ⟨(by assumption), h⟩, fun h => h.2⟩ | exact .inl (by assumption) | exact ⟨.inr, fun h => h.resolve_left (by assumption)⟩ | exact ⟨fun h => h.resolve_left (by assumption), .inr⟩ | simp [*])) Sub.nil), fun _ h => h⟩
    refine wr_y rfl (y_assign rfl) ?_
    refine wr_nil ?_
    refine w_retR (R1 := []) (fun _ h => h.sel [] (by decide) rfl) ?_
    refine ⟨_, rfl, ?_⟩
    rfl

end Go.Proofs.YtipnciohgbjjhaaGreat

