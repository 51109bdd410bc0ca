/- Walks of Go functions, printed by a program of our own. -/
import Derived.Test.YtffekklhmdoceaaF4
import Derived.Test.YtffekklhmdoceaaE10
namespace Go.Proofs.Ytffekklhmdoceaa
open Go Go.Eng Go.Pure
set_option linter.unusedVariables false
theorem buildTab (w : World) : (Instr.build 41 #[]).run Try.prog w = .ok (.agg (ints .u32 (List.replicate 256 0)).toArray) w := by kernel_rfl
/-! (*whorl/crc.Crc).Table -/
set_option maxRecDepth 100000 in
theorem crcTableNil_ct {w : World}  :
    Ct Try.prog 24 #[.pointer none] w.heap.size w [] (fun v R' => v = .agg (ints .u32 (List.replicate 256 0)).toArray) := by
  refine fnC Try.func24 rfl rfl rfl Try.underlying41 rfl sz41 ?_
  refine w_seq ?_
  refine w_reg ?_
  refine wr_a rfl (a_alloc (sz := 256) zz41 rfl) ?_
  rintro _ _ ⟨g_2, rfl, rfl⟩
  refine wr_rows (R1 := [⟨41, 256, (some ⟨g_2, 0, none⟩), 1, 1, ints .u32 (List.replicate 256 0), false⟩]) rfl ?_
  refine wr_nil ?_
  refine w_seq ?_
  refine w_seq ?_
  refine w_reg ?_
  refine wr_y rfl (y_move rfl) ?_
  refine wr_y rfl (y_ptrEq Try.underlying31 rfl rfl) ?_
  refine wr_nil ?_
  refine w_true rfl ?_
  refine w_seq ?_
  refine w_reg ?_
  refine wr_y rfl (y_build0 buildTab) ?_
  refine wr_n (a_storeAll (vs := ints .u32 (List.replicate 256 0)) 0 rfl sz41 rfl rfl rfl (ints_one _ _) (by rw [ints_length, List.length_replicate])) ?_
  rintro _ _ rfl
  refine wr_rows (R1 := [⟨41, 256, (some ⟨g_2, 0, none⟩), 1, 1, ints .u32 (List.replicate 256 0), false⟩]) rfl ?_
  refine wr_nil ?_
  refine w_ret ?_
  refine ⟨_, 0, _, rfl, rfl, rfl, rfl, rfl, rfl, rfl, [], fun _ h => h.sel [] (by decide) rfl, ?_⟩
  rfl

/-! (*whorl/crc.Crc).Table -/
set_option maxRecDepth 100000 in
theorem crcTab_ct {B : Nat} {w0 : World} {R : List Row} {T g : Nat} {d r r' : Int} {t : List Int} (hst : (d = 0 ∧ r' = r + 1 ∧ t.length = 256 ∧ 0 ≤ r ∧ r < 1000000) ∨ (d = 1 ∧ r' = r ∧ t = ctab)) :
    Ct Try.prog 24 #[.pointer (some ⟨g, 0, none⟩)] B w0 (crcRow T g d 0 r t :: R) (fun v R' => v = .agg (ints .u32 ctab).toArray ∧ R' = crcRow T g 1 0 r' ctab :: R) := by
  refine fnC Try.func24 rfl rfl rfl Try.underlying41 rfl sz41 ?_
  refine w_seq ?_
  refine w_reg ?_
  refine wr_a rfl (a_alloc (sz := 256) zz41 rfl) ?_
  rintro _ _ ⟨g_2, rfl, rfl⟩
  refine wr_rows (R1 := (⟨41, 256, (some ⟨g_2, 0, none⟩), 1, 1, ints .u32 (List.replicate 256 0), false⟩ :: crcRow T g d 0 r t :: R)) rfl ?_
  refine wr_nil ?_
  refine w_seq ?_
  refine w_seq ?_
  refine w_reg ?_
  refine wr_y rfl (y_move rfl) ?_
  refine wr_y rfl (y_ptrEq Try.underlying31 rfl rfl) ?_
  refine wr_nil ?_
  refine w_false rfl ?_
  refine w_skip ?_
  refine w_seq ?_
  refine w_reg ?_
  refine wr_y rfl (y_move rfl) ?_
  refine wr_y rfl (y_nilCheck rfl) ?_
  refine wr_y rfl (y_fieldAt (off := 0) (m := 0) Try.underlying67 rfl sz63 rfl rfl rfl) ?_
  refine wr_y rfl (y_move rfl) ?_
  refine wr_y rfl (y_makeFunc rfl rfl) ?_
  refine wr_a rfl (a_callF en32 rfl (Ct.at 1 rfl (onceAny hst))) ?_
  rintro _ _ ⟨rfl, rfl⟩
  refine wr_rows (R1 := (⟨41, 256, (some ⟨g_2, 0, none⟩), 1, 1, ints .u32 (List.replicate 256 0), false⟩ :: crcRow T g 1 0 r' ctab :: R)) rfl ?_
  refine wr_nil ?_
  refine w_seq ?_
  refine w_reg ?_
  refine wr_y rfl (y_move rfl) ?_
  refine wr_y rfl (y_nilCheck rfl) ?_
  refine wr_y rfl (y_fieldAt (off := 4) (m := 4) Try.underlying67 rfl sz41 rfl rfl rfl) ?_
  refine wr_y rfl (y_ldMid (vs := ints .u32 ctab) 1 rfl rfl Try.underlying41 rfl sz41 rfl (by show (ints .u32 ctab).take 256 = _; exact List.take_of_length_le (by rw [ints_length, ctab_len]; exact Nat.le_refl _)) (by show 4 + 256 ≤ (crcXs _ _ _ _).length; rw [crcXs_len, ctab_len]; exact Nat.le_refl _) rfl) ?_
  refine wr_n (a_storeAll (vs := ints .u32 ctab) 0 rfl sz41 rfl rfl rfl (ints_one _ _) (by rw [ints_length, ctab_len])) ?_
  rintro _ _ rfl
  refine wr_rows (R1 := (⟨41, 256, (some ⟨g_2, 0, none⟩), 1, 1, ints .u32 ctab, false⟩ :: crcRow T g 1 0 r' ctab :: R)) rfl ?_
  refine wr_nil ?_
  refine w_ret ?_
  refine ⟨_, 0, _, rfl, rfl, rfl, rfl, rfl, rfl, rfl, (crcRow T g 1 0 r' ctab :: R), fun _ h => h.right (R' := [_]), ?_⟩
  exact ⟨rfl, rfl⟩

theorem ctab_ix {i : Int} (h0 : 0 ≤ i) (h1 : i < 256) : (ints .u32 ctab)[0 + i.toNat]? = some (.int .u32 (bv (cnum (BitVec.ofInt 32 i)))) := by
  obtain ⟨i, rfl⟩ : ∃ m : Nat, i = m := ⟨i.toNat, by omega⟩
  rw [Nat.zero_add, Int.toNat_natCast, ints, List.getElem?_map, ctab_at (by omega)]
  rfl
/-! whorl/whorllaw2.CrcTable -/
set_option maxRecDepth 100000 in
theorem crcTable_ct {w : World} {i : Int} {tm : Int} :
    Ct Try.prog 10 #[.int .i64 i, .int .i64 tm] w.heap.size w [] (fun v R' => v = .bool true) := by
  refine fn1 Try.func10 rfl rfl rfl ?_
  refine w_seq ?_
  refine w_reg ?_
  refine wr_y rfl (y_assign rfl) ?_
  refine wr_nil ?_
  refine w_seq ?_
  refine w_seq ?_
  refine w_reg ?_
  refine wr_y rfl (y_move rfl) ?_
  refine wr_y rfl (y_lt rfl rfl) ?_
  refine wr_y rfl (y_move rfl) ?_
  refine wr_mid 3 [(0, .int .i64 i), (1, .int .i64 tm), (13, .bool (decide ((i < 0) ∨ (255 < i))))] [] ?_ ?_
  ·
    refine wr_case 10 rfl (fun hc1 => ?_) (fun hc1 => ?_)
    ·
      refine wr_no rfl rfl rfl rfl ?_
      refine wr_no rfl rfl rfl rfl ?_
      refine wr_y rfl (y_pickT rfl rfl) ?_
      refine wr_nil ?_
      exact ⟨(Sub.cons rfl (Sub.cons rfl (Sub.to rfl (mb_t (by first | omega | simp [*])) Sub.nil))), fun _ h => h⟩
    ·
      refine wr_yes rfl rfl ?_
      refine wr_y rfl (y_move rfl) ?_
      refine wr_yes rfl rfl ?_
      refine wr_y rfl (y_gt rfl rfl) ?_
      refine wr_y rfl (y_pickF rfl rfl) ?_
      refine wr_nil ?_
      exact ⟨(Sub.cons rfl (Sub.cons rfl (Sub.to rfl (mb (by first | omega | simp [*])) Sub.nil))), fun _ h => h⟩
  refine wr_y rfl (y_move rfl) ?_
  refine wr_mid 3 [(0, .int .i64 i), (1, .int .i64 tm), (17, .bool (decide (((i < 0) ∨ (255 < i)) ∨ (tm < 1))))] [] ?_ ?_
  ·
    refine wr_case 14 rfl (fun hc2 => ?_) (fun hc2 => ?_)
    ·
      refine wr_no rfl rfl rfl rfl ?_
      refine wr_no rfl rfl rfl rfl ?_
      refine wr_y rfl (y_pickT rfl rfl) ?_
      refine wr_nil ?_
      exact ⟨(Sub.cons rfl (Sub.cons rfl (Sub.to rfl (mb_t (by first | omega | simp [*])) Sub.nil))), fun _ h => h⟩
    ·
      refine wr_yes rfl rfl ?_
      refine wr_y rfl (y_move rfl) ?_
      refine wr_yes rfl rfl ?_
      refine wr_y rfl (y_lt rfl rfl) ?_
      refine wr_y rfl (y_pickF rfl rfl) ?_
      refine wr_nil ?_
      exact ⟨(Sub.cons rfl (Sub.cons rfl (Sub.to rfl (mb (by first | omega | simp [*])) Sub.nil))), fun _ h => h⟩
  refine wr_y rfl (y_move rfl) ?_
  refine wr_mid 3 [(0, .int .i64 i), (1, .int .i64 tm), (21, .bool (decide ((((i < 0) ∨ (255 < i)) ∨ (tm < 1)) ∨ (20 < tm))))] [] ?_ ?_
  ·
    refine wr_case 18 rfl (fun hc3 => ?_) (fun hc3 => ?_)
    ·
      refine wr_no rfl rfl rfl rfl ?_
      refine wr_no rfl rfl rfl rfl ?_
      refine wr_y rfl (y_pickT rfl rfl) ?_
      refine wr_nil ?_
      exact ⟨(Sub.cons rfl (Sub.cons rfl (Sub.to rfl (mb_t (by first | omega | simp [*])) Sub.nil))), fun _ h => h⟩
    ·
      refine wr_yes rfl rfl ?_
      refine wr_y rfl (y_move rfl) ?_
      refine wr_yes rfl rfl ?_
      refine wr_y rfl (y_gt rfl rfl) ?_
      refine wr_y rfl (y_pickF rfl rfl) ?_
      refine wr_nil ?_
      exact ⟨(Sub.cons rfl (Sub.cons rfl (Sub.to rfl (mb (by first | omega | simp [*])) Sub.nil))), fun _ h => h⟩
  refine wr_nil ?_
  refine w_if rfl (fun hc4 => ?_) (fun hc4 => ?_)
  ·
    refine w_seq ?_
    refine w_reg ?_
    refine wr_y rfl (y_assign rfl) ?_
    refine wr_nil ?_
    refine w_ret ?_
    refine ⟨_, rfl, ?_⟩
    rfl
  ·
    refine w_skip ?_
    refine w_seq ?_
    refine w_reg ?_
    refine wr_a rfl (a_callF en19 rfl (Ct.fresh (fun w hw => crcNew_ct))) ?_
    rintro _ _ ⟨_, rfl, g_1, rfl, rfl⟩
    refine wr_y rfl (y_assign rfl) ?_
    refine wr_nil ?_
    refine w_seq ?_
    refine w_seq ?_
    refine w_reg ?_
    refine wr_y rfl (y_move rfl) ?_
    refine wr_y rfl (y_ptrEq Try.underlying31 rfl rfl) ?_
    refine wr_nil ?_
    refine w_false rfl ?_
    refine w_skip ?_
    refine w_seq ?_
    refine w_seq ?_
    refine w_reg ?_
    refine wr_y rfl (y_assign rfl) ?_
    refine wr_nil ?_
    refine w_block ?_
    refine w_loop4 (fun (k : Int) (d : Int) (r : Int) (t : List Int) => [(0, .int .i64 i), (1, .int .i64 tm), (5, .pointer (some ⟨g_1, 0, none⟩)), (6, .int .i64 k)]) (fun (k : Int) (d : Int) (r : Int) (t : List Int) => [crcRow 67 g_1 d 0 r t]) (fun (k : Int) (d : Int) (r : Int) (t : List Int) => (0 ≤ k) ∧ ((d = 0 ∧ r = 0 ∧ t.length = 256) ∨ (d = 1 ∧ r = 1 ∧ t = ctab))) (fun (k : Int) (d : Int) (r : Int) (t : List Int) => (tm - k).toNat) ?_ ?_
    ·
      exact ⟨0, 0, 0, List.replicate 256 0, ⟨(by omega), (.inl ⟨rfl, rfl, List.length_replicate ..⟩)⟩, (Sub.cons rfl (Sub.cons rfl (Sub.cons rfl (Sub.cons rfl Sub.nil)))), fun _ h => h⟩
    intro k d r t ⟨hk0, hst0⟩
    obtain ⟨r', hr', hst⟩ : ∃ r' : Int, r' = 1 ∧ ((d = 0 ∧ r' = r + 1 ∧ t.length = 256 ∧ 0 ≤ r ∧ r < 1000000) ∨ (d = 1 ∧ r' = r ∧ t = ctab)) := ⟨1, rfl, hst0.elim (fun ⟨a, b, c⟩ => .inl ⟨a, by omega, c, by omega, by omega⟩) (fun ⟨a, b, c⟩ => .inr ⟨a, by omega, c⟩)⟩
    refine w_seq ?_
    refine w_seq ?_
    refine w_reg ?_
    refine wr_y rfl (y_move rfl) ?_
    refine wr_y rfl (y_move rfl) ?_
    refine wr_y rfl (y_lt rfl rfl) ?_
    refine wr_nil ?_
    refine w_if rfl (fun hc5 => ?_) (fun hc5 => ?_)
    ·
      refine w_skip ?_
      refine w_seq ?_
      refine w_block ?_
      refine w_seq ?_
      refine w_reg ?_
      refine wr_y rfl (y_move rfl) ?_
      refine wr_a rfl (a_callF en24 rfl (Ct.at 0 rfl (crcTab_ct hst))) ?_
      rintro _ _ ⟨rfl, rfl⟩
      refine wr_rows (R1 := [crcRow 67 g_1 1 0 r' ctab]) rfl ?_
      refine wr_a rfl (a_alloc (sz := 256) zz41 rfl) ?_
      rintro _ _ ⟨g_3, rfl, rfl⟩
      refine wr_rows (R1 := [⟨41, 256, (some ⟨g_3, 0, none⟩), 1, 1, ints .u32 (List.replicate 256 0), false⟩, crcRow 67 g_1 1 0 r' ctab]) rfl ?_
      refine wr_n (a_storeAll (vs := ints .u32 ctab) 0 rfl sz41 rfl rfl rfl (ints_one _ _) (by rw [ints_length, ctab_len])) ?_
      rintro _ _ rfl
      refine wr_rows (R1 := [⟨41, 256, (some ⟨g_3, 0, none⟩), 1, 1, ints .u32 ctab, false⟩, crcRow 67 g_1 1 0 r' ctab]) rfl ?_
      refine wr_nil ?_
      refine w_seq ?_
      refine w_regd mixed ?_
      refine wd_y 0 rfl (by kernel_rfl) rfl (y_move rfl) ?_
      refine wd_y 1 rfl (by kernel_rfl) rfl (y_indexAt 0 rfl rfl Try.underlying41 sz33 rfl rfl (by show 0 < (ints _ _).length; rw [ints_length, ctab_len]; omega) (by omega) (by omega)) ?_
      refine wd_y 2 rfl (by kernel_rfl) rfl (y_ldAt 0 rfl rfl Try.underlying33 rfl rfl (ctab_ix (by omega) (by omega))) ?_
      refine wd_y 3 rfl (by kernel_rfl) rfl (y_move rfl) ?_
      refine wd_a 4 rfl (by kernel_rfl) rfl (a_callF en23 rfl (Ct.quiet (fun w hw => number2_ct))) ?_
      rintro _ _ ⟨rfl, rfl⟩
      refine ⟨.inr fun _ h => h, ?_⟩
      refine wd_y 5 rfl (by kernel_rfl) rfl (Yl.f (y_neU (p := cnum (BitVec.ofInt 32 i)) (q := cnum (BitVec.ofInt 32 i)) rfl rfl) (fun h => h rfl)) ?_
      refine wd_y 6 rfl (by kernel_rfl) rfl (y_move rfl) ?_
      refine wd_yg 7 rfl (by kernel_rfl) rfl rfl rfl (y_move rfl) ?_
      refine wd_ag 8 rfl (by kernel_rfl) rfl rfl rfl (a_callF en25 rfl (Ct.at 1 rfl (crcRuns_ct (by omega)))) ?_
      rintro _ _ ⟨rfl, rfl⟩
      refine ⟨.inr fun _ h => h, ?_⟩
      refine wd_rows (R1 := [⟨41, 256, (some ⟨g_3, 0, none⟩), 1, 1, ints .u32 ctab, false⟩, crcRow 67 g_1 1 0 r' ctab]) rfl ?_
      refine wd_yg 9 rfl (by kernel_rfl) rfl rfl rfl (Yl.f (y_ne rfl rfl) (fun h => h hr')) ?_
      refine wd_y 10 rfl (by kernel_rfl) rfl (y_pickF rfl rfl) ?_
      refine wd_nil (by kernel_rfl) ?_
      refine w_false rfl ?_
      refine w_skip ?_
      refine w_reg ?_
      refine wr_y rfl (y_move rfl) ?_
      refine wr_y rfl (y_addI rfl rfl (by omega)) ?_
      refine wr_y rfl (y_assign rfl) ?_
      refine wr_nil ?_
      exact ⟨k + 1, 1, r', ctab, ⟨(by omega), (.inr ⟨rfl, hr', rfl⟩)⟩, (by omega), (Sub.cons rfl (Sub.cons rfl (Sub.cons rfl (Sub.cons rfl Sub.nil)))), fun _ h => h.sel [1] (by decide) rfl⟩
    ·
      refine w_exit ?_
      refine w_seq ?_
      refine w_reg ?_
      refine wr_a rfl (a_callF en22 rfl (Ct.quiet (fun w hw => known2_ct))) ?_
      rintro _ _ ⟨rfl, rfl⟩
      refine wr_y rfl (y_assign rfl) ?_
      refine wr_nil ?_
      refine w_retR (R1 := []) (fun _ h => h.sel [] (by decide) rfl) ?_
      refine ⟨_, rfl, ?_⟩
      rfl

/-! (*whorl/crc.Crc).Sum -/
set_option maxRecDepth 100000 in
theorem crcSumNil_ct {w : World} {b : Value} :
    Ct Try.prog 20 #[.pointer none, b] w.heap.size w [] (fun v R' => v = .int .u32 0) := by
  refine fn1 Try.func20 rfl rfl rfl ?_
  refine w_seq ?_
  refine w_reg ?_
  refine wr_y rfl (y_assign rfl) ?_
  refine wr_nil ?_
  refine w_seq ?_
  refine w_seq ?_
  refine w_reg ?_
  refine wr_y rfl (y_move rfl) ?_
  refine wr_y rfl (y_ptrEq Try.underlying31 rfl rfl) ?_
  refine wr_nil ?_
  refine w_true rfl ?_
  refine w_seq ?_
  refine w_reg ?_
  refine wr_y rfl (y_assign rfl) ?_
  refine wr_nil ?_
  refine w_ret ?_
  refine ⟨_, rfl, ?_⟩
  rfl

/-! (*whorl/crc.Crc).Runs -/
set_option maxRecDepth 100000 in
theorem crcRunsNil_ct {w : World}  :
    Ct Try.prog 25 #[.pointer none] w.heap.size w [] (fun v R' => v = .int .i64 0) := by
  refine fn1 Try.func25 rfl rfl rfl ?_
  refine w_seq ?_
  refine w_reg ?_
  refine wr_y rfl (y_assign rfl) ?_
  refine wr_nil ?_
  refine w_seq ?_
  refine w_seq ?_
  refine w_reg ?_
  refine wr_y rfl (y_move rfl) ?_
  refine wr_y rfl (y_ptrEq Try.underlying31 rfl rfl) ?_
  refine wr_nil ?_
  refine w_true rfl ?_
  refine w_seq ?_
  refine w_reg ?_
  refine wr_y rfl (y_assign rfl) ?_
  refine wr_nil ?_
  refine w_ret ?_
  refine ⟨_, rfl, ?_⟩
  rfl

theorem arrEq (w : World) : (binOp .eql 41 (.agg (ints .u32 (List.replicate 256 0)).toArray) (.agg (ints .u32 (List.replicate 256 0)).toArray)).run Try.prog w = .ok (.bool true) w := by kernel_rfl
theorem arrGuard (x y : Operand) (w : World) : (eqGuard .eql 41 x y (.agg (ints .u32 (List.replicate 256 0)).toArray) (.agg (ints .u32 (List.replicate 256 0)).toArray)).run Try.prog w = .ok () w := by kernel_rfl
/-! whorl/whorllaw2.CrcRows -/
set_option maxRecDepth 100000 in
theorem crcRows_ct {w : World} {A_l : Option Addr} {n_l c_l : Nat} {vals_l : List Value} {l : List (List Int)} (h_l : Rd w A_l n_l c_l 1 vals_l) (s_l : SlW .u8 w vals_l l) :
    Ct Try.prog 11 #[.slice A_l n_l c_l] w.heap.size w [] (fun v R' => v = .bool true) := by
  obtain rfl : n_l = l.length := by have := h_l.len; have := s_l.1; omega
  refine fn1 Try.func11 rfl rfl rfl ?_
  have m_l := h_l.max
  refine w_seq ?_
  refine w_reg ?_
  refine wr_y rfl (y_assign rfl) ?_
  refine wr_nil ?_
  refine w_seq ?_
  refine w_reg ?_
  refine wr_sub (R1 := [⟨5, 1, none, 0, 0, ints .u8 ([]), false⟩]) (Sub.refl _) (fun _ h => h.nil 5 1) ?_
  refine wr_y rfl (y_assign rfl) ?_
  refine wr_nil ?_
  refine w_seq ?_
  refine w_seq ?_
  refine w_reg ?_
  refine wr_y rfl (y_assign rfl) ?_
  refine wr_nil ?_
  refine w_block ?_
  refine w_loop5 (fun (A1 : Option Addr) (n1 : Nat) (c1 : Nat) (acc : List Int) (k : Int) => [(0, .slice A_l l.length c_l), (3, .slice A1 n1 c1), (4, .int .i64 k)]) (fun (A1 : Option Addr) (n1 : Nat) (c1 : Nat) (acc : List Int) (k : Int) => [⟨5, 1, A1, n1, c1, ints .u8 acc, false⟩]) (fun (A1 : Option Addr) (n1 : Nat) (c1 : Nat) (acc : List Int) (k : Int) => (n1 = acc.length) ∧ (0 ≤ k) ∧ (k ≤ l.length) ∧ (acc = (l.take k.toNat).flatten) ∧ (ByteL acc) ∧ (acc.length ≤ 1000) ∧ (k ≤ 101) ∧ (Big (l.take k.toNat))) (fun (A1 : Option Addr) (n1 : Nat) (c1 : Nat) (acc : List Int) (k : Int) => (l.length - k).toNat) ?_ ?_
  ·
    exact ⟨none, 0, 0, [], 0, ⟨(rfl), (by omega), (by omega), (rfl), (ByteL.nil), (by decide), (by omega), (Big.nil)⟩, (Sub.cons rfl (Sub.cons rfl (Sub.cons rfl Sub.nil))), fun _ h => h⟩
  intro A1 n1 c1 acc k ⟨hn1, hk0, hk1, ha, hb, hle, hk2, hbg⟩
  refine w_seq ?_
  refine w_seq ?_
  refine w_reg ?_
  refine wr_y rfl (y_move rfl) ?_
  refine wr_y rfl (y_move rfl) ?_
  refine wr_y rfl (y_len Try.underlying45 rfl) ?_
  refine wr_y rfl (y_lt rfl rfl) ?_
  refine wr_nil ?_
  refine w_if rfl (fun hc1 => ?_) (fun hc1 => ?_)
  ·
    refine w_skip ?_
    refine w_seq ?_
    refine w_block ?_
    refine w_seq ?_
    refine w_seq ?_
    refine w_reg ?_
    refine wr_y rfl (y_move rfl) ?_
    refine wr_y rfl (y_gt rfl rfl) ?_
    refine wr_y rfl (y_move rfl) ?_
    refine wr_mid 10 [(0, .slice A_l l.length c_l), (3, .slice A1 n1 c1), (4, .int .i64 k), (25, .bool (decide ((100 < k) ∨ (1000 < (((n1 : Nat) : Int) + (((rdl l k).length : Nat) : Int))))))] [⟨5, 1, A1, n1, c1, ints .u8 acc, false⟩] ?_ ?_
    ·
      refine wr_case 15 rfl (fun hc2 => ?_) (fun hc2 => ?_)
      ·
        refine wr_no rfl rfl rfl rfl ?_
        refine wr_no rfl rfl rfl rfl ?_
        refine wr_no rfl rfl rfl rfl ?_
        refine wr_no rfl rfl rfl rfl ?_
        refine wr_no rfl rfl rfl rfl ?_
        refine wr_no rfl rfl rfl rfl ?_
        refine wr_no rfl rfl rfl rfl ?_
        refine wr_no rfl rfl rfl rfl ?_
        refine wr_no rfl rfl rfl rfl ?_
        refine wr_y rfl (y_pickT rfl rfl) ?_
        refine wr_nil ?_
        exact ⟨(Sub.cons rfl (Sub.cons rfl (Sub.cons rfl (Sub.to rfl (mb_t (by first | omega | simp [*])) Sub.nil)))), fun _ h => h⟩
      ·
        refine wr_yes rfl rfl ?_
        refine wr_y rfl (y_move rfl) ?_
        refine wr_yes rfl rfl ?_
        refine wr_y rfl (y_len Try.underlying22 rfl) ?_
        refine wr_yes rfl rfl ?_
        refine wr_y rfl (y_move rfl) ?_
        refine wr_yes rfl rfl ?_
        refine wr_y rfl (y_move rfl) ?_
        refine wr_yes rfl rfl ?_
        refine wr_y rfl (y_index1 Try.underlying45 sz22 rfl rfl (h_l.c _) (by omega) (by omega)) ?_
        refine wr_yes rfl rfl ?_
        obtain ⟨A_1, c_2, hv_3, hr_4, hb_5, mhr_4⟩ := s_l.at (i := k) (by omega) (by omega)
        refine wr_y rfl (y_ld Try.underlying22 rfl rfl rfl (h_l.c _) hv_3) ?_
        refine wr_yes rfl rfl ?_
        refine wr_y rfl (y_len Try.underlying22 rfl) ?_
        refine wr_yes rfl rfl ?_
        refine wr_y rfl (y_addI rfl rfl (by omega)) ?_
        refine wr_yes rfl rfl ?_
        refine wr_y rfl (y_gt rfl rfl) ?_
        refine wr_y rfl (y_pickF rfl rfl) ?_
        refine wr_nil ?_
        exact ⟨(Sub.cons rfl (Sub.cons rfl (Sub.cons rfl (Sub.to rfl (mb (by first | omega | simp [*])) Sub.nil)))), fun _ h => h⟩
    refine wr_nil ?_
    refine w_if rfl (fun hc3 => ?_) (fun hc3 => ?_)
    ·
      refine w_seq ?_
      refine w_reg ?_
      refine wr_y rfl (y_assign rfl) ?_
      refine wr_nil ?_
      refine w_retR (R1 := []) (fun _ h => h.sel [] (by decide) rfl) ?_
      refine ⟨_, rfl, ?_⟩
      rfl
    ·
      refine w_skip ?_
      refine w_reg ?_
      refine wr_y rfl (y_move rfl) ?_
      refine wr_y rfl (y_move rfl) ?_
      refine wr_y rfl (y_move rfl) ?_
      refine wr_y rfl (y_index1 Try.underlying45 sz22 rfl rfl (h_l.c _) (by omega) (by omega)) ?_
      obtain ⟨A_6, c_7, hv_8, hr_9, hb_10, mhr_9⟩ := s_l.at (i := k) (by omega) (by omega)
      refine wr_y rfl (y_ld Try.underlying22 rfl rfl rfl (h_l.c _) hv_8) ?_
      refine wr_a rfl (a_appendI 0 rfl Try.underlying22 zb5 rfl rfl rfl (hr_9.c _) (by omega)) ?_
      rintro _ _ ⟨A_11, c_12, rfl, rfl⟩
      refine wr_rows (R1 := [⟨5, 1, A_11, (n1 + ((rdl l k).length)), c_12, ints .u8 (acc ++ (rdl l k)), false⟩]) rfl ?_
      refine wr_as (v := .slice A_11 (n1 + ((rdl l k).length)) c_12) rfl ?_
      refine wr_y rfl (y_assign rfl) ?_
      refine wr_nil ?_
      refine w_reg ?_
      refine wr_y rfl (y_move rfl) ?_
      refine wr_y rfl (y_addI rfl rfl (by omega)) ?_
      refine wr_y rfl (y_assign rfl) ?_
      refine wr_nil ?_
      exact ⟨A_11, n1 + ((rdl l k).length), c_12, acc ++ (rdl l k), k + 1, ⟨(by rw [List.length_append, hn1]; try rfl), (by omega), (by omega), (by rw [ha, rdl_snoc hk0 (by omega)]; simp), (hb.append (byteL_wf (by assumption))), (by rw [List.length_append]; omega), (by omega), (by rw [rdl_snoc hk0 (by omega)]; exact hbg.snoc (by rw [List.length_take]; omega) (by omega))⟩, (by omega), (Sub.cons rfl (Sub.cons rfl (Sub.cons rfl Sub.nil))), fun _ h => h⟩
  ·
    refine w_exit ?_
    refine w_seq ?_
    refine w_reg ?_
    refine wr_a rfl (a_callF en19 rfl (Ct.fresh (fun w hw => crcNew_ct))) ?_
    rintro _ _ ⟨_, rfl, g_13, rfl, rfl⟩
    refine wr_y rfl (y_assign rfl) ?_
    refine wr_nil ?_
    refine w_seq ?_
    refine w_reg ?_
    refine wr_y rfl (y_assign rfl) ?_
    refine wr_nil ?_
    refine w_seq ?_
    refine w_reg ?_
    refine wr_y rfl (y_move rfl) ?_
    refine wr_y rfl (y_ptrNe Try.underlying31 rfl rfl) ?_
    refine wr_y rfl (y_move rfl) ?_
    refine wr_yes rfl rfl ?_
    refine wr_y rfl (y_move rfl) ?_
    refine wr_yes rfl rfl ?_
    refine wr_y rfl (y_move rfl) ?_
    refine wr_yes rfl rfl ?_
    refine wr_a rfl (a_callF en20 rfl (Ct.at 0 rfl (crcSum_ct (ls := l) (.inl ⟨rfl, rfl, List.length_replicate .., by omega⟩) (h_l.c _) s_l.1.symm (SlRd.of s_l) (by rw [List.take_of_length_le (by omega)] at hbg; exact hbg)))) ?_
    rintro _ _ ⟨rfl, rfl⟩
    refine wr_rows (R1 := [crcRow 67 g_13 1 0 (0 + 1) ctab, ⟨5, 1, A1, n1, c1, ints .u8 acc, false⟩]) rfl ?_
    refine wr_yes rfl rfl ?_
    refine wr_y rfl (y_move rfl) ?_
    refine wr_yes rfl rfl ?_
    refine wr_y rfl (y_move rfl) ?_
    refine wr_yes rfl rfl ?_
    refine wr_a rfl (a_lit [.slice A1 n1 c1] Try.underlying45 zs22 rfl rfl rfl rfl) ?_
    rintro _ _ ⟨g_15, rfl, rfl⟩
    refine wr_yes rfl rfl ?_
    refine wr_a rfl (a_callF en20 rfl (Ct.at 1 rfl (crcSum_ct (ls := [acc]) (.inr ⟨rfl, rfl, rfl⟩) (rdR 0 (r := ⟨22, 1, (some ⟨g_15, 0, none⟩), 1, 1, [.slice A1 n1 c1], false⟩) rfl) rfl (SlRd.one (l := acc) (rdR 1 (r := ⟨5, 1, A1, n1, c1, ints .u8 acc, false⟩) rfl) hb hn1) (Big.one (by first | omega | decide | simp))))) ?_
    rintro _ _ ⟨rfl, rfl⟩
    refine wr_rows (R1 := [⟨22, 1, (some ⟨g_15, 0, none⟩), 1, 1, [.slice A1 n1 c1], false⟩, crcRow 67 g_13 1 0 (0 + 1) ctab, ⟨5, 1, A1, n1, c1, ints .u8 acc, false⟩]) rfl ?_
    refine wr_yes rfl rfl ?_
    refine wr_y rfl (Yl.t (y_eqU (p := csum (l).flatten) (q := csum ([acc]).flatten) rfl rfl) (by rw [ha, List.take_of_length_le (by omega)]; simp)) ?_
    refine wr_y rfl (y_pickT rfl rfl) ?_
    refine wr_y rfl (y_move rfl) ?_
    refine wr_yes rfl rfl ?_
    refine wr_y rfl (y_move rfl) ?_
    refine wr_yes rfl rfl ?_
    refine wr_a rfl (a_callF en20 rfl (Ct.at 1 rfl (crcSum_ct (ls := ([] : List (List Int))) (.inr ⟨rfl, rfl, rfl⟩) (rd_nilV _) rfl SlRd.nil Big.nil))) ?_
    rintro _ _ ⟨rfl, rfl⟩
    refine wr_rows (R1 := [⟨22, 1, (some ⟨g_15, 0, none⟩), 1, 1, [.slice A1 n1 c1], false⟩, crcRow 67 g_13 1 0 (0 + 1) ctab, ⟨5, 1, A1, n1, c1, ints .u8 acc, false⟩]) rfl ?_
    refine wr_yes rfl rfl ?_
    refine wr_y rfl (Yl.t (y_eqU (p := csum (([] : List (List Int))).flatten) (q := 0#32) rfl rfl) (by decide)) ?_
    refine wr_y rfl (y_pickT rfl rfl) ?_
    refine wr_y rfl (y_move rfl) ?_
    refine wr_yes rfl rfl ?_
    refine wr_y rfl (y_move rfl) ?_
    refine wr_yes rfl rfl ?_
    refine wr_a rfl (a_callF en25 rfl (Ct.at 1 rfl (crcRuns_ct (by omega)))) ?_
    rintro _ _ ⟨rfl, rfl⟩
    refine wr_rows (R1 := [⟨22, 1, (some ⟨g_15, 0, none⟩), 1, 1, [.slice A1 n1 c1], false⟩, crcRow 67 g_13 1 0 (0 + 1) ctab, ⟨5, 1, A1, n1, c1, ints .u8 acc, false⟩]) rfl ?_
    refine wr_yes rfl rfl ?_
    refine wr_y rfl (Yl.t (y_eq rfl rfl) (by decide)) ?_
    refine wr_y rfl (y_pickT rfl rfl) ?_
    refine wr_y rfl (y_move rfl) ?_
    refine wr_yes rfl rfl ?_
    refine wr_y rfl (y_move rfl) ?_
    refine wr_yes rfl rfl ?_
    refine wr_y rfl (y_move rfl) ?_
    refine wr_yes rfl rfl ?_
    refine wr_a rfl (a_lit [.slice A1 n1 c1] Try.underlying45 zs22 rfl rfl rfl rfl) ?_
    rintro _ _ ⟨g_17, rfl, rfl⟩
    refine wr_yes rfl rfl ?_
    refine wr_a rfl (a_callF en20 rfl (Ct.quiet (fun w hw => crcSumNil_ct))) ?_
    rintro _ _ ⟨rfl, rfl⟩
    refine wr_yes rfl rfl ?_
    refine wr_y rfl (Yl.t (y_eq rfl rfl) (rfl)) ?_
    refine wr_y rfl (y_pickT rfl rfl) ?_
    refine wr_y rfl (y_move rfl) ?_
    refine wr_yes rfl rfl ?_
    refine wr_y rfl (y_move rfl) ?_
    refine wr_yes rfl rfl ?_
    refine wr_a rfl (a_callF en25 rfl (Ct.quiet (fun w hw => crcRunsNil_ct))) ?_
    rintro _ _ ⟨rfl, rfl⟩
    refine wr_yes rfl rfl ?_
    refine wr_y rfl (Yl.t (y_eq rfl rfl) (rfl)) ?_
    refine wr_y rfl (y_pickT rfl rfl) ?_
    refine wr_y rfl (y_move rfl) ?_
    refine wr_yes rfl rfl ?_
    refine wr_y rfl (y_move rfl) ?_
    refine wr_yes rfl rfl ?_
    refine wr_a rfl (a_callF en24 rfl (Ct.quiet (fun w hw => crcTableNil_ct))) ?_
    rintro _ _ ⟨rfl, rfl⟩
    refine wr_yes rfl rfl ?_
    refine wr_y rfl (y_build0 buildTab) ?_
    refine wr_yes rfl rfl ?_
    refine wr_y rfl (y_eqR arrEq (arrGuard _ _) rfl rfl) ?_
    refine wr_y rfl (y_pickT rfl rfl) ?_
    refine wr_y rfl (y_move rfl) ?_
    refine wr_yes rfl rfl ?_
    refine wr_a rfl (a_callF en22 rfl (Ct.quiet (fun w hw => known2_ct))) ?_
    rintro _ _ ⟨rfl, rfl⟩
    refine wr_y rfl (y_pickT rfl rfl) ?_
    refine wr_y rfl (y_assign rfl) ?_
    refine wr_nil ?_
    refine w_retR (R1 := []) (fun _ h => h.sel [] (by decide) rfl) ?_
    refine ⟨_, rfl, ?_⟩
    rfl

end Go.Proofs.Ytffekklhmdoceaa
