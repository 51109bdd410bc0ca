/- Walks of Go functions, printed by a program of our own. -/
import Derived.Test.YtffekklhmdoceaaF1
import Derived.Test.YtffekklhmdoceaaC1
namespace Go.Proofs.Ytffekklhmdoceaa
open Go Go.Eng Go.Pure
set_option linter.unusedVariables false
/-! whorl/whorlref2.Number -/
set_option maxRecDepth 100000 in
theorem number2_ct {w : World} {i : Int} :
    Ct Try.prog 23 #[.int .i64 i] w.heap.size w [] (fun v R' => v = .int .u32 (bv (cnum (BitVec.ofInt 32 i)))) := by
  refine fn1 Try.func23 rfl rfl rfl ?_
  refine w_seq ?_
  refine w_reg ?_
  refine wr_y rfl (y_assign rfl) ?_
  refine wr_nil ?_
  refine w_seq ?_
  refine w_reg ?_
  refine wr_y rfl (y_move rfl) ?_
  refine wr_y rfl (y_convB Try.underlying3 Try.underlying33 rfl) ?_
  refine wr_y rfl (y_assign rfl) ?_
  refine wr_nil ?_
  refine w_seq ?_
  refine w_seq ?_
  refine w_reg ?_
  refine wr_y rfl (y_assign rfl) ?_
  refine wr_nil ?_
  refine w_block ?_
  refine w_loop2 (fun (k : Int) (x : BitVec 32) => [(3, .int .u32 (bv x)), (4, .int .i64 k)]) (fun (k : Int) (x : BitVec 32) => []) (fun (k : Int) (x : BitVec 32) => (0 ≤ k) ∧ (k ≤ 8) ∧ (cnum (BitVec.ofInt 32 i) = cstepN (8 - k).toNat x)) (fun (k : Int) (x : BitVec 32) => (8 - k).toNat) ?_ ?_
  ·
    exact ⟨0, BitVec.ofInt 32 i, ⟨(by omega), (by omega), (rfl)⟩, (Sub.cons rfl (Sub.cons rfl Sub.nil)), fun _ h => h⟩
  intro k x ⟨hk0, hk8, hx⟩
  refine w_seq ?_
  refine w_seq ?_
  refine w_reg ?_
  refine wr_y rfl (y_move rfl) ?_
  refine wr_y rfl (y_lt rfl rfl) ?_
  refine wr_nil ?_
  refine w_if rfl (fun hc1 => ?_) (fun hc1 => ?_)
  ·
    refine w_skip ?_
    refine w_seq ?_
    refine w_block ?_
    refine w_seq ?_
    refine w_reg ?_
    refine wr_y rfl (y_move rfl) ?_
    refine wr_y rfl (y_andB (p := x) (q := 1#32) rfl rfl) ?_
    refine wr_y rfl (y_eqU (p := x &&& (1#32)) (q := 1#32) rfl rfl) ?_
    refine wr_nil ?_
    refine w_if rfl (fun hc2 => ?_) (fun hc2 => ?_)
    ·
      refine w_reg ?_
      refine wr_y rfl (y_move rfl) ?_
      refine wr_y rfl (y_shrB (k := 1) rfl rfl rfl) ?_
      refine wr_y rfl (y_xorB (p := x >>> 1) (q := 3988292384#32) rfl rfl) ?_
      refine wr_y rfl (y_assign rfl) ?_
      refine wr_nil ?_
      refine w_reg ?_
      refine wr_y rfl (y_move rfl) ?_
      refine wr_y rfl (y_addI rfl rfl (by omega)) ?_
      refine wr_y rfl (y_assign rfl) ?_
      refine wr_nil ?_
      exact ⟨k + 1, (x >>> 1) ^^^ (3988292384#32), ⟨(by omega), (by omega), (by rw [hx, cstepN_go (by omega)]; unfold cstep; rw [if_pos (by assumption)])⟩, (by omega), (Sub.cons rfl (Sub.cons rfl Sub.nil)), fun _ h => h⟩
    ·
      refine w_reg ?_
      refine wr_y rfl (y_move rfl) ?_
      refine wr_y rfl (y_shrB (k := 1) rfl rfl rfl) ?_
      refine wr_y rfl (y_assign rfl) ?_
      refine wr_nil ?_
      refine w_reg ?_
      refine wr_y rfl (y_move rfl) ?_
      refine wr_y rfl (y_addI rfl rfl (by omega)) ?_
      refine wr_y rfl (y_assign rfl) ?_
      refine wr_nil ?_
      exact ⟨k + 1, x >>> 1, ⟨(by omega), (by omega), (by rw [hx, cstepN_go (by omega)]; unfold cstep; rw [if_neg (by assumption)])⟩, (by omega), (Sub.cons rfl (Sub.cons rfl Sub.nil)), fun _ h => h⟩
  ·
    refine w_exit ?_
    refine w_seq ?_
    refine w_reg ?_
    refine wr_y rfl (y_move rfl) ?_
    refine wr_y rfl (y_assign rfl) ?_
    refine wr_nil ?_
    refine w_ret ?_
    refine ⟨_, rfl, ?_⟩
    obtain rfl : k = 8 := by omega
    rw [hx]
    rfl

/-! whorl/whorlref2.Sum -/
set_option maxRecDepth 100000 in
theorem sum2_ct {w : World} {A_u : Option Addr} {n_u c_u : Nat} {u : List Int} (h_u : Rd w A_u n_u c_u 1 (ints .u8 u)) (bh_u : ByteL u) :
    Ct Try.prog 21 #[.slice A_u n_u c_u] w.heap.size w [] (fun v R' => v = .int .u32 (bv (csum u))) := by
  obtain rfl := h_u.lenI
  refine fn1 Try.func21 rfl rfl rfl ?_
  have m_u := h_u.max
  refine w_seq ?_
  refine w_reg ?_
  refine wr_y rfl (y_assign rfl) ?_
  refine wr_nil ?_
  refine w_seq ?_
  refine w_reg ?_
  refine wr_y rfl (y_assign rfl) ?_
  refine wr_nil ?_
  refine w_seq ?_
  refine w_seq ?_
  refine w_reg ?_
  refine wr_y rfl (y_assign rfl) ?_
  refine wr_nil ?_
  refine w_block ?_
  refine w_loop2 (fun (k : Int) (x : BitVec 32) => [(0, .slice A_u u.length c_u), (3, .int .u32 (bv x)), (4, .int .i64 k)]) (fun (k : Int) (x : BitVec 32) => []) (fun (k : Int) (x : BitVec 32) => (0 ≤ k) ∧ (k ≤ u.length) ∧ (cfold 4294967295#32 u = cfold x (u.drop k.toNat ++ []))) (fun (k : Int) (x : BitVec 32) => (u.length - k).toNat) ?_ ?_
  ·
    exact ⟨0, 4294967295#32, ⟨(by omega), (by omega), (by rw [List.append_nil]; rfl)⟩, (Sub.cons rfl (Sub.cons rfl (Sub.cons rfl Sub.nil))), fun _ h => h⟩
  intro k x ⟨hk0, hk1, hx⟩
  refine w_seq ?_
  refine w_seq ?_
  refine w_reg ?_
  refine wr_y rfl (y_move rfl) ?_
  refine wr_y rfl (y_move rfl) ?_
  refine wr_y rfl (y_len Try.underlying22 rfl) ?_
  refine wr_y rfl (y_lt rfl rfl) ?_
  refine wr_nil ?_
  refine w_if rfl (fun hc1 => ?_) (fun hc1 => ?_)
  ·
    refine w_skip ?_
    refine w_seq ?_
    refine w_block ?_
    refine w_reg ?_
    refine wr_y rfl (y_move rfl) ?_
    refine wr_y rfl (y_shrB (k := 8) rfl rfl rfl) ?_
    refine wr_y rfl (y_move rfl) ?_
    refine wr_y rfl (y_conv Try.underlying33 Try.underlying5 rfl) ?_
    refine wr_y rfl (y_move rfl) ?_
    refine wr_y rfl (y_move rfl) ?_
    refine wr_y rfl (y_index1 Try.underlying22 sz5 rfl rfl (h_u.c _) (by omega) (by omega)) ?_
    refine wr_y rfl (y_ldI Try.underlying5 rfl rfl (h_u.c _) (by omega) (by omega)) ?_
    refine wr_y rfl (y_xor8 rfl rfl) ?_
    refine wr_y rfl (y_convI Try.underlying5 Try.underlying3 rfl (by have := cidx8 (x := x) (bh_u.rd k); have := cidx_lt (x := x) (bh_u.rd k); omega)) ?_
    refine wr_a rfl (a_callF en23 rfl (Ct.quiet (fun w hw => number2_ct))) ?_
    rintro _ _ ⟨rfl, rfl⟩
    refine wr_y rfl (y_xorB rfl rfl) ?_
    refine wr_y rfl (y_assign rfl) ?_
    refine wr_nil ?_
    refine w_reg ?_
    refine wr_y rfl (y_move rfl) ?_
    refine wr_y rfl (y_addI rfl rfl (by omega)) ?_
    refine wr_y rfl (y_assign rfl) ?_
    refine wr_nil ?_
    exact ⟨k + 1, (x >>> 8) ^^^ (cnum (BitVec.ofInt 32 ((BitVec.ofInt 8 (IntKind.u8.wrap (bv x)) ^^^ BitVec.ofInt 8 (rd u k)).toNat : Int))), ⟨(by omega), (by omega), (by rw [hx, cfold_step hk0 (by omega)]; have e := cidx8 (x := x) (bh_u.rd k); rw [e, ofInt_bv]; rfl)⟩, (by omega), (Sub.cons rfl (Sub.cons rfl (Sub.cons rfl Sub.nil))), fun _ h => h⟩
  ·
    refine w_exit ?_
    refine w_seq ?_
    refine w_reg ?_
    refine wr_y rfl (y_move rfl) ?_
    refine wr_y rfl (y_notB (p := x) rfl) ?_
    refine wr_y rfl (y_assign rfl) ?_
    refine wr_nil ?_
    refine w_ret ?_
    refine ⟨_, rfl, ?_⟩
    refine congrArg (Value.int .u32) (congrArg bv ?_)
    rw [drop_len (by omega)] at hx
    unfold csum
    rw [hx, BitVec.xor_comm]
    rfl

theorem buildCrc (w : World) : (Instr.build 67 #[]).run Try.prog w = .ok (.agg (crcXs 0 0 0 (List.replicate 256 0)).toArray) w := by kernel_rfl
/-! whorl/crc.New -/
set_option maxRecDepth 100000 in
theorem crcNew_ct {w : World}  :
    Ct Try.prog 19 #[] w.heap.size w [] (fun v R' => ∃ g, v = .pointer (some ⟨g, 0, none⟩) ∧ R' = [crcRow 67 g 0 0 0 (List.replicate 256 0)]) := by
  refine fn1 Try.func19 rfl rfl rfl ?_
  refine w_seq ?_
  refine w_reg ?_
  refine wr_y rfl (y_assign rfl) ?_
  refine wr_nil ?_
  refine w_seq ?_
  refine w_reg ?_
  refine wr_y rfl (y_build0 buildCrc) ?_
  refine wr_a rfl (a_box (sz := 260) rfl (by kernel_rfl)) ?_
  rintro _ _ ⟨g_1, rfl, rfl⟩
  refine wr_rows (R1 := [crcRow 67 g_1 0 0 0 (List.replicate 256 0)]) rfl ?_
  refine wr_y rfl (y_assign rfl) ?_
  refine wr_nil ?_
  refine w_retR (R1 := [crcRow 67 g_1 0 0 0 (List.replicate 256 0)]) (fun _ h => h.sel [0] (by decide) rfl) ?_
  refine ⟨_, rfl, ?_⟩
  exact ⟨_, rfl, rfl⟩

/-! (*sync/atomic.Int32).Add -/
set_option maxRecDepth 100000 in
theorem crcAdd_ct {B : Nat} {w0 : World} {R : List Row} {T g : Nat} {d s r : Int} {t : List Int} (hr : 0 ≤ r ∧ r < 1000000) :
    Ct Try.prog 42 #[.pointer (some ⟨g, 3, none⟩), .int .i32 1] B w0 (crcRow T g d s r t :: R) (fun v R' => v = .int .i32 (r + 1) ∧ R' = crcRow T g d s (r + 1) t :: R) := by
  refine fn1 Try.func42 rfl rfl rfl ?_
  refine w_seq ?_
  refine w_reg ?_
  refine wr_y rfl (y_assign rfl) ?_
  refine wr_nil ?_
  refine w_seq ?_
  refine w_reg ?_
  refine wr_y rfl (y_move rfl) ?_
  refine wr_y rfl (y_nilCheck rfl) ?_
  refine wr_y rfl (y_fieldAt (off := 0) (m := 3) Try.underlying65 rfl sz21 rfl rfl rfl) ?_
  refine wr_y rfl (y_move rfl) ?_
  refine wr_a rfl (a_ext rfl (fun w hw => runsAdd hr hw)) ?_
  rintro _ _ ⟨rfl, rfl⟩
  refine wr_y rfl (y_assign rfl) ?_
  refine wr_nil ?_
  refine w_ret ?_
  refine ⟨_, rfl, ?_⟩
  exact ⟨rfl, rfl⟩

/-! (*sync/atomic.Int32).Load -/
set_option maxRecDepth 100000 in
theorem crcLoad_ct {B : Nat} {w0 : World} {R : List Row} {T g : Nat} {d s r : Int} {t : List Int} :
    Ct Try.prog 34 #[.pointer (some ⟨g, 3, none⟩)] B w0 (crcRow T g d s r t :: R) (fun v R' => v = .int .i32 r ∧ R' = crcRow T g d s r t :: R) := by
  refine fn1 Try.func34 rfl rfl rfl ?_
  refine w_seq ?_
  refine w_reg ?_
  refine wr_y rfl (y_assign rfl) ?_
  refine wr_nil ?_
  refine w_seq ?_
  refine w_reg ?_
  refine wr_y rfl (y_move rfl) ?_
  refine wr_y rfl (y_nilCheck rfl) ?_
  refine wr_y rfl (y_fieldAt (off := 0) (m := 3) Try.underlying65 rfl sz21 rfl rfl rfl) ?_
  refine wr_a rfl (a_ext rfl (fun w hw => runsLoad hw)) ?_
  rintro _ _ ⟨rfl, rfl⟩
  refine wr_y rfl (y_assign rfl) ?_
  refine wr_nil ?_
  refine w_ret ?_
  refine ⟨_, rfl, ?_⟩
  exact ⟨rfl, rfl⟩

/-! (*whorl/crc.Crc).Runs -/
set_option maxRecDepth 100000 in
theorem crcRuns_ct {B : Nat} {w0 : World} {R : List Row} {T g : Nat} {d s r : Int} {t : List Int} (hr : 0 ≤ r ∧ r ≤ 1000000) :
    Ct Try.prog 25 #[.pointer (some ⟨g, 0, none⟩)] B w0 (crcRow T g d s r t :: R) (fun v R' => v = .int .i64 r ∧ R' = crcRow T g d s r t :: R) := by
  refine fn1 Try.func25 rfl rfl rfl ?_
  refine w_seq ?_
  refine w_reg ?_
  refine wr_y rfl (y_assign rfl) ?_
  refine wr_nil ?_
  refine w_seq ?_
  refine w_seq ?_
  refine w_reg ?_
  refine wr_y rfl (y_move rfl) ?_
  refine wr_y rfl (y_ptrEq Try.underlying31 rfl rfl) ?_
  refine wr_nil ?_
  refine w_false rfl ?_
  refine w_skip ?_
  refine w_seq ?_
  refine w_reg ?_
  refine wr_y rfl (y_move rfl) ?_
  refine wr_y rfl (y_nilCheck rfl) ?_
  refine wr_y rfl (y_fieldAt (off := 3) (m := 3) Try.underlying67 rfl sz65 rfl rfl rfl) ?_
  refine wr_a rfl (a_callF en34 rfl (Ct.at 0 rfl (crcLoad_ct))) ?_
  rintro _ _ ⟨rfl, rfl⟩
  refine wr_rows (R1 := (crcRow T g d s r t :: R)) rfl ?_
  refine wr_y rfl (y_convI Try.underlying21 Try.underlying3 rfl (by omega)) ?_
  refine wr_y rfl (y_assign rfl) ?_
  refine wr_nil ?_
  refine w_ret ?_
  refine ⟨_, rfl, ?_⟩
  exact ⟨rfl, rfl⟩

/-! (*whorl/crc.Crc).makes -/
set_option maxRecDepth 100000 in
theorem crcMakes_ct {B : Nat} {w0 : World} {R : List Row} {T g : Nat} {d s r : Int} {t : List Int} (hr : 0 ≤ r ∧ r < 1000000) (ht : t.length = 256) :
    Ct Try.prog 33 #[.pointer (some ⟨g, 0, none⟩)] B w0 (crcRow T g d s r t :: R) (fun v R' => v = .tuple #[] ∧ R' = crcRow T g d s (r + 1) ctab :: R) := by
  refine fn0 Try.func33 rfl rfl rfl ?_
  refine w_seq ?_
  refine w_reg ?_
  refine wr_y rfl (y_move rfl) ?_
  refine wr_y rfl (y_nilCheck rfl) ?_
  refine wr_y rfl (y_fieldAt (off := 3) (m := 3) Try.underlying67 rfl sz65 rfl rfl rfl) ?_
  refine wr_a rfl (a_callF en42 rfl (Ct.at 0 rfl (crcAdd_ct (by omega)))) ?_
  rintro _ _ ⟨rfl, rfl⟩
  refine wr_rows (R1 := (crcRow T g d s (r + 1) t :: R)) rfl ?_
  refine wr_nil ?_
  refine w_seq ?_
  refine w_reg ?_
  refine wr_y rfl (y_move rfl) ?_
  refine wr_nil ?_
  refine w_block ?_
  refine w_loop1 (fun (k : Int) => [(0, .pointer (some ⟨g, 0, none⟩)), (9, .int .i64 k)]) (fun (k : Int) => (crcRow T g d s (r + 1) (ctab.take k.toNat ++ t.drop k.toNat) :: R)) (fun (k : Int) => (0 ≤ k) ∧ (k ≤ 256)) (fun (k : Int) => (256 - k).toNat) ?_ ?_
  ·
    exact ⟨0, ⟨(by omega), (by omega)⟩, (Sub.cons rfl (Sub.cons rfl Sub.nil)), fun _ h => h⟩
  intro k ⟨hk0, hk1⟩
  refine w_seq ?_
  refine w_reg ?_
  refine wr_y rfl (y_lt rfl rfl) ?_
  refine wr_nil ?_
  refine w_seq ?_
  refine w_if rfl (fun hc1 => ?_) (fun hc1 => ?_)
  ·
    refine w_skip ?_
    refine w_seq ?_
    refine w_block ?_
    refine w_seq ?_
    refine w_reg ?_
    refine wr_y rfl (y_move rfl) ?_
    refine wr_y rfl (y_assign rfl) ?_
    refine wr_nil ?_
    refine w_seq ?_
    refine w_reg ?_
    refine wr_y rfl (y_move rfl) ?_
    refine wr_y rfl (y_convB Try.underlying3 Try.underlying33 rfl) ?_
    refine wr_y rfl (y_assign rfl) ?_
    refine wr_nil ?_
    refine w_seq ?_
    refine w_seq ?_
    refine w_reg ?_
    refine wr_y rfl (y_move rfl) ?_
    refine wr_nil ?_
    refine w_block ?_
    refine w_loop2 (fun (j : Int) (x : BitVec 32) => [(0, .pointer (some ⟨g, 0, none⟩)), (2, .int .i64 k), (3, .int .u32 (bv x)), (9, .int .i64 k), (14, .int .i64 j)]) (fun (j : Int) (x : BitVec 32) => (crcRow T g d s (r + 1) (ctab.take k.toNat ++ t.drop k.toNat) :: R)) (fun (j : Int) (x : BitVec 32) => (0 ≤ j) ∧ (j ≤ 8) ∧ (cnum (BitVec.ofInt 32 k) = cstepN (8 - j).toNat x)) (fun (j : Int) (x : BitVec 32) => (8 - j).toNat) ?_ ?_
    ·
      exact ⟨0, BitVec.ofInt 32 k, ⟨(by omega), (by omega), (rfl)⟩, (Sub.cons rfl (Sub.cons rfl (Sub.cons rfl (Sub.cons rfl (Sub.cons rfl Sub.nil))))), fun _ h => h⟩
    intro j x ⟨hj0, hj8, hx⟩
    refine w_seq ?_
    refine w_reg ?_
    refine wr_y rfl (y_lt rfl rfl) ?_
    refine wr_nil ?_
    refine w_seq ?_
    refine w_if rfl (fun hc2 => ?_) (fun hc2 => ?_)
    ·
      refine w_skip ?_
      refine w_seq ?_
      refine w_block ?_
      refine w_seq ?_
      refine w_reg ?_
      refine wr_y rfl (y_move rfl) ?_
      refine wr_y rfl (y_andB (p := x) (q := 1#32) rfl rfl) ?_
      refine wr_y rfl (y_assign rfl) ?_
      refine wr_nil ?_
      refine w_seq ?_
      refine w_reg ?_
      refine wr_y rfl (y_move rfl) ?_
      refine wr_y rfl (y_shrB (k := 1) rfl rfl rfl) ?_
      refine wr_y rfl (y_assign rfl) ?_
      refine wr_nil ?_
      refine w_seq ?_
      refine w_reg ?_
      refine wr_y rfl (y_move rfl) ?_
      refine wr_y rfl (y_eqU (p := x &&& (1#32)) (q := 1#32) rfl rfl) ?_
      refine wr_nil ?_
      refine w_if rfl (fun hc3 => ?_) (fun hc3 => ?_)
      ·
        refine w_reg ?_
        refine wr_y rfl (y_move rfl) ?_
        refine wr_y rfl (y_xorB (p := x >>> 1) (q := 3988292384#32) rfl rfl) ?_
        refine wr_y rfl (y_assign rfl) ?_
        refine wr_nil ?_
        refine w_reg ?_
        refine wr_y rfl (y_addI rfl rfl (by omega)) ?_
        refine wr_y rfl (y_move rfl) ?_
        refine wr_nil ?_
        exact ⟨j + 1, (x >>> 1) ^^^ (3988292384#32), ⟨(by omega), (by omega), (by rw [hx, cstepN_go (by omega)]; unfold cstep; rw [if_pos (by assumption)])⟩, (by omega), (Sub.cons rfl (Sub.cons rfl (Sub.cons rfl (Sub.cons rfl (Sub.cons rfl Sub.nil))))), fun _ h => h⟩
      ·
        refine w_skip ?_
        refine w_reg ?_
        refine wr_y rfl (y_addI rfl rfl (by omega)) ?_
        refine wr_y rfl (y_move rfl) ?_
        refine wr_nil ?_
        exact ⟨j + 1, x >>> 1, ⟨(by omega), (by omega), (by rw [hx, cstepN_go (by omega)]; unfold cstep; rw [if_neg (by assumption)])⟩, (by omega), (Sub.cons rfl (Sub.cons rfl (Sub.cons rfl (Sub.cons rfl (Sub.cons rfl Sub.nil))))), fun _ h => h⟩
    ·
      refine w_exit ?_
      refine w_reg ?_
      refine wr_y rfl (y_move rfl) ?_
      refine wr_y rfl (y_move rfl) ?_
      refine wr_y rfl (y_move rfl) ?_
      refine wr_y rfl (y_nilCheck rfl) ?_
      refine wr_y rfl (y_fieldAt (off := 4) (m := 4) Try.underlying67 rfl sz41 rfl rfl rfl) ?_
      refine wr_y rfl (y_indexAt 0 rfl rfl Try.underlying41 sz33 rfl rfl (by show _ < (crcXs _ _ _ _).length; rw [crcXs_len, List.length_append, List.length_take, List.length_drop, ctab_len, ht]; omega) (by omega) (by omega)) ?_
      refine wr_n (a_storeAt 0 rfl rfl rfl sz33 rfl rfl rfl rfl (by show _ < (crcXs _ _ _ _).length; rw [crcXs_len, List.length_append, List.length_take, List.length_drop, ctab_len, ht]; omega)) ?_
      rintro _ _ rfl
      refine wr_rows (R1 := (crcRow T g d s (r + 1) (ctab.take (k + 1).toNat ++ t.drop (k + 1).toNat) :: R)) (by have hj : j = 8 := (by omega); subst hj; have hf := ctab_fill ht hk0 (show k < 256 by omega); rw [hx] at hf; simp only [List.set_cons_zero, crcRow, crcXs_set]; rw [← hf]; rfl) ?_
      refine wr_nil ?_
      refine w_reg ?_
      refine wr_y rfl (y_addI rfl rfl (by omega)) ?_
      refine wr_y rfl (y_move rfl) ?_
      refine wr_nil ?_
      exact ⟨k + 1, ⟨(by omega), (by omega)⟩, (by omega), (Sub.cons rfl (Sub.cons rfl Sub.nil)), fun _ h => h⟩
  ·
    refine w_exit ?_
    skip
    obtain rfl : k = 256 := by omega
    refine ⟨rfl, ?_⟩
    have e : ctab.take (256 : Int).toNat ++ t.drop (256 : Int).toNat = ctab := by rw [List.take_of_length_le (by rw [ctab_len]; decide), List.drop_of_length_le (by rw [ht]; decide), List.append_nil]
    rw [e]

theorem onceAny {B : Nat} {w0 : World} {R : List Row} {T g : Nat} {d r r' : Int} {t : List Int} (hst : (d = 0 ∧ r' = r + 1 ∧ t.length = 256 ∧ 0 ≤ r ∧ r < 1000000) ∨ (d = 1 ∧ r' = r ∧ t = ctab)) :
    Ct Try.prog 32 #[.pointer (some ⟨g, 0, none⟩), .func (.func 33) #[.pointer (some ⟨g, 0, none⟩)] #[]] B w0 (crcRow T g d 0 r t :: R) (fun v R' => v = .tuple #[] ∧ R' = crcRow T g 1 0 r' ctab :: R) := by
  rcases hst with ⟨rfl, rfl, ht, hr⟩ | ⟨rfl, rfl, rfl⟩
  · exact onceFirst (fun w hw => (crcMakes_ct hr ht w hw).mono (by rintro e w' ⟨v, R', rfl, hh, rfl, rfl⟩; exact ⟨rfl, hh⟩))
  · exact onceDone
/-! (*whorl/crc.Crc).Sum -/
set_option maxRecDepth 100000 in
theorem crcSum_ct {B : Nat} {w0 : World} {R : List Row} {T g : Nat} {d r r' : Int} {t : List Int} {A : Option Addr} {m c : Nat} {vals : List Value} {ls : List (List Int)} (hst : (d = 0 ∧ r' = r + 1 ∧ t.length = 256 ∧ 0 ≤ r ∧ r < 1000000) ∨ (d = 1 ∧ r' = r ∧ t = ctab)) (hA : RdC B w0 R A m c 1 vals) (hm : m = vals.length) (hls : SlRd B w0 R vals ls) (hbig : Big ls) :
    Ct Try.prog 20 #[.pointer (some ⟨g, 0, none⟩), .slice A m c] B w0 (crcRow T g d 0 r t :: R) (fun v R' => v = .int .u32 (bv (csum ls.flatten)) ∧ R' = crcRow T g 1 0 r' ctab :: R) := by
  refine fn1 Try.func20 rfl rfl rfl ?_
  have hmax := hbig.1
  have hle := hls.1
  refine w_seq ?_
  refine w_reg ?_
  refine wr_y rfl (y_assign rfl) ?_
  refine wr_nil ?_
  refine w_seq ?_
  refine w_seq ?_
  refine w_reg ?_
  refine wr_y rfl (y_move rfl) ?_
  refine wr_y rfl (y_ptrEq Try.underlying31 rfl rfl) ?_
  refine wr_nil ?_
  refine w_false rfl ?_
  refine w_skip ?_
  refine w_seq ?_
  refine w_reg ?_
  refine wr_y rfl (y_move rfl) ?_
  refine wr_y rfl (y_nilCheck rfl) ?_
  refine wr_y rfl (y_fieldAt (off := 0) (m := 0) Try.underlying67 rfl sz63 rfl rfl rfl) ?_
  refine wr_y rfl (y_move rfl) ?_
  refine wr_y rfl (y_makeFunc rfl rfl) ?_
  refine wr_a rfl (a_callF en32 rfl (Ct.at 0 rfl (onceAny hst))) ?_
  rintro _ _ ⟨rfl, rfl⟩
  refine wr_rows (R1 := (crcRow T g 1 0 r' ctab :: R)) rfl ?_
  refine wr_nil ?_
  refine w_seq ?_
  refine w_reg ?_
  refine wr_y rfl (y_assign rfl) ?_
  refine wr_nil ?_
  refine w_seq ?_
  refine w_seq ?_
  refine w_reg ?_
  refine wr_y rfl (y_move rfl) ?_
  refine wr_y rfl (y_len Try.underlying45 rfl) ?_
  refine wr_y rfl (y_move rfl) ?_
  refine wr_nil ?_
  refine w_block ?_
  refine w_loop2 (fun (k : Int) (x : BitVec 32) => [(0, .pointer (some ⟨g, 0, none⟩)), (5, .int .u32 (bv x)), (18, .slice A m c), (19, .int .i64 ((m : Nat) : Int)), (20, .int .i64 k)]) (fun (k : Int) (x : BitVec 32) => (crcRow T g 1 0 r' ctab :: R)) (fun (k : Int) (x : BitVec 32) => (0 ≤ k) ∧ (k ≤ m) ∧ (cfold 4294967295#32 ls.flatten = cfold x (ls.drop k.toNat).flatten)) (fun (k : Int) (x : BitVec 32) => (m - k).toNat) ?_ ?_
  ·
    exact ⟨0, 4294967295#32, ⟨(by omega), (by omega), (rfl)⟩, (Sub.cons rfl (Sub.cons rfl (Sub.cons rfl (Sub.cons rfl (Sub.cons rfl Sub.nil))))), fun _ h => h⟩
  intro k x ⟨hk0, hk1, hx⟩
  refine w_seq ?_
  refine w_reg ?_
  refine wr_y rfl (y_lt rfl rfl) ?_
  refine wr_nil ?_
  refine w_seq ?_
  refine w_if rfl (fun hc1 => ?_) (fun hc1 => ?_)
  ·
    refine w_skip ?_
    refine w_seq ?_
    refine w_block ?_
    refine w_seq ?_
    refine w_reg ?_
    refine wr_y rfl (y_index1 Try.underlying45 sz22 rfl rfl (RdC.tail hA) (by omega) (by omega)) ?_
    obtain ⟨A1, c1, l1, hv1, hl1, hr1, hb1⟩ := hls.at hk0 (by have := hls.1; omega)
    have hbl := hbig.2 _ _ hl1
    refine wr_y rfl (y_ld Try.underlying22 rfl rfl rfl (RdC.tail hA) hv1) ?_
    refine wr_y rfl (y_assign rfl) ?_
    refine wr_nil ?_
    refine w_seq ?_
    refine w_reg ?_
    refine wr_y rfl (y_move rfl) ?_
    refine wr_y rfl (y_len Try.underlying22 rfl) ?_
    refine wr_y rfl (y_move rfl) ?_
    refine wr_nil ?_
    refine w_block ?_
    refine w_loop2 (fun (j : Int) (y : BitVec 32) => [(0, .pointer (some ⟨g, 0, none⟩)), (5, .int .u32 (bv y)), (18, .slice A m c), (19, .int .i64 ((m : Nat) : Int)), (20, .int .i64 k), (24, .slice A1 l1.length c1), (25, .int .i64 ((l1.length : Nat) : Int)), (26, .int .i64 j)]) (fun (j : Int) (y : BitVec 32) => (crcRow T g 1 0 r' ctab :: R)) (fun (j : Int) (y : BitVec 32) => (0 ≤ j) ∧ (j ≤ l1.length) ∧ (cfold 4294967295#32 ls.flatten = cfold y (l1.drop j.toNat ++ (ls.drop (k + 1).toNat).flatten))) (fun (j : Int) (y : BitVec 32) => (l1.length - j).toNat) ?_ ?_
    ·
      exact ⟨0, x, ⟨(by omega), (by omega), (by rw [hx, drop_flat hk0 hl1]; rfl)⟩, (Sub.cons rfl (Sub.cons rfl (Sub.cons rfl (Sub.cons rfl (Sub.cons rfl (Sub.cons rfl (Sub.cons rfl (Sub.cons rfl Sub.nil)))))))), fun _ h => h⟩
    intro j y ⟨hj0, hj1, hy⟩
    refine w_seq ?_
    refine w_reg ?_
    refine wr_y rfl (y_lt rfl rfl) ?_
    refine wr_nil ?_
    refine w_seq ?_
    refine w_if rfl (fun hc2 => ?_) (fun hc2 => ?_)
    ·
      refine w_skip ?_
      refine w_seq ?_
      refine w_block ?_
      refine w_seq ?_
      refine w_reg ?_
      refine wr_y rfl (y_index1 Try.underlying22 sz5 rfl rfl (RdC.tail hr1) (by omega) (by omega)) ?_
      refine wr_y rfl (y_ldI Try.underlying5 rfl rfl (RdC.tail hr1) (by omega) (by omega)) ?_
      refine wr_y rfl (y_assign rfl) ?_
      refine wr_nil ?_
      refine w_reg ?_
      refine wr_y rfl (y_move rfl) ?_
      refine wr_y rfl (y_shrB (k := 8) rfl rfl rfl) ?_
      refine wr_y rfl (y_move rfl) ?_
      refine wr_y rfl (y_move rfl) ?_
      refine wr_y rfl (y_andB (p := y) (q := 255#32) rfl rfl) ?_
      refine wr_y rfl (y_move rfl) ?_
      refine wr_y rfl (y_convB Try.underlying5 Try.underlying33 rfl) ?_
      refine wr_y rfl (y_xorB rfl rfl) ?_
      refine wr_y rfl (y_nilCheck rfl) ?_
      refine wr_y rfl (y_fieldAt (off := 4) (m := 4) Try.underlying67 rfl sz41 rfl rfl rfl) ?_
      refine wr_y rfl (y_indexAt 0 rfl rfl Try.underlying41 sz33 rfl rfl (by show _ < (crcXs _ _ _ _).length; rw [crcXs_len, ctab_len]; omega) (by exact (cidx_lt (x := y) (hb1.rd j)).1) (by exact (cidx_lt (x := y) (hb1.rd j)).2)) ?_
      refine wr_y rfl (y_ldAt 0 rfl rfl Try.underlying33 rfl rfl (crcXs_at (ctab_bv (cidx_lt (x := y) (hb1.rd j)).2))) ?_
      refine wr_y rfl (y_xorB rfl rfl) ?_
      refine wr_y rfl (y_assign rfl) ?_
      refine wr_nil ?_
      refine w_reg ?_
      refine wr_y rfl (y_addI rfl rfl (by omega)) ?_
      refine wr_y rfl (y_move rfl) ?_
      refine wr_nil ?_
      exact ⟨j + 1, (y >>> 8) ^^^ (cnum (cidx y (rd l1 j))), ⟨(by omega), (by omega), (by rw [hy, cfold_step hj0 (by omega)]; rfl)⟩, (by omega), (Sub.cons rfl (Sub.cons rfl (Sub.cons rfl (Sub.cons rfl (Sub.cons rfl (Sub.cons rfl (Sub.cons rfl (Sub.cons rfl Sub.nil)))))))), fun _ h => h⟩
    ·
      refine w_exit ?_
      refine w_reg ?_
      refine wr_y rfl (y_addI rfl rfl (by omega)) ?_
      refine wr_y rfl (y_move rfl) ?_
      refine wr_nil ?_
      exact ⟨k + 1, y, ⟨(by omega), (by omega), (by rw [hy, drop_len (by omega)]; rfl)⟩, (by omega), (Sub.cons rfl (Sub.cons rfl (Sub.cons rfl (Sub.cons rfl (Sub.cons rfl Sub.nil))))), fun _ h => h⟩
  ·
    refine w_exit ?_
    refine w_seq ?_
    refine w_reg ?_
    refine wr_y rfl (y_move rfl) ?_
    refine wr_y rfl (y_xorB (p := x) (q := 4294967295#32) rfl rfl) ?_
    refine wr_y rfl (y_assign rfl) ?_
    refine wr_nil ?_
    refine w_ret ?_
    refine ⟨_, rfl, ?_⟩
    refine ⟨?_, rfl⟩
    rw [drop_len (by omega)] at hx
    unfold csum
    rw [hx]
    rfl

/-! whorl/whorllaw2.known -/
set_option maxRecDepth 100000 in
theorem known2_ct {w : World}  :
    Ct Try.prog 22 #[] w.heap.size w [] (fun v R' => v = .bool true) := by
  refine fn1 Try.func22 rfl rfl rfl ?_
  refine w_seq ?_
  refine w_reg ?_
  refine wr_y rfl (y_assign rfl) ?_
  refine wr_nil ?_
  refine w_seq ?_
  refine w_reg ?_
  refine wr_a rfl (a_callF en19 rfl (Ct.fresh (fun w hw => crcNew_ct))) ?_
  rintro _ _ ⟨_, rfl, g_1, rfl, rfl⟩
  refine wr_y rfl (y_assign rfl) ?_
  refine wr_nil ?_
  refine w_seq ?_
  refine w_reg ?_
  refine wr_y rfl (y_move rfl) ?_
  refine wr_y rfl (y_ptrNe Try.underlying31 rfl rfl) ?_
  refine wr_y rfl (y_move rfl) ?_
  refine wr_yes rfl rfl ?_
  refine wr_y rfl (y_move rfl) ?_
  refine wr_yes rfl rfl ?_
  refine wr_a rfl (a_callF en25 rfl (Ct.at 0 rfl (crcRuns_ct (by omega)))) ?_
  rintro _ _ ⟨rfl, rfl⟩
  refine wr_rows (R1 := [crcRow 67 g_1 0 0 0 (List.replicate 256 0)]) rfl ?_
  refine wr_yes rfl rfl ?_
  refine wr_y rfl (Yl.t (y_eq rfl rfl) (by decide)) ?_
  refine wr_y rfl (y_pickT rfl rfl) ?_
  refine wr_y rfl (y_move rfl) ?_
  refine wr_yes rfl rfl ?_
  refine wr_y rfl (y_move rfl) ?_
  refine wr_yes rfl rfl ?_
  refine wr_a rfl (a_litI .u8 [49, 50, 51, 52, 53, 54, 55, 56, 57] Try.underlying22 zs5 rfl rfl rfl) ?_
  rintro _ _ ⟨g_3, rfl, rfl⟩
  refine wr_yes rfl rfl ?_
  refine wr_a rfl (a_mark 0 rfl rfl Try.underlying22 Try.underlying5 rfl rfl) ?_
  rintro _ _ ⟨rfl, rfl⟩
  refine wr_rows (R1 := [⟨5, 1, (some ⟨g_3, 0, none⟩), 9, 9, ints .u8 ([49, 50, 51, 52, 53, 54, 55, 56, 57]), true⟩, crcRow 67 g_1 0 0 0 (List.replicate 256 0)]) rfl ?_
  refine wr_yes rfl rfl ?_
  refine wr_a rfl (a_lit [.slice (some ⟨g_3, 0, none⟩) 9 9] Try.underlying45 zs22 rfl rfl rfl rfl) ?_
  rintro _ _ ⟨g_5, rfl, rfl⟩
  refine wr_yes rfl rfl ?_
  refine wr_a rfl (a_callF en20 rfl (Ct.at 2 rfl (crcSum_ct (ls := [[49, 50, 51, 52, 53, 54, 55, 56, 57]]) (.inl ⟨rfl, rfl, List.length_replicate .., by omega⟩) (rdR 0 (r := ⟨22, 1, (some ⟨g_5, 0, none⟩), 1, 1, [.slice (some ⟨g_3, 0, none⟩) 9 9], false⟩) rfl) rfl (SlRd.one (l := [49, 50, 51, 52, 53, 54, 55, 56, 57]) (rdR 1 (r := ⟨5, 1, (some ⟨g_3, 0, none⟩), 9, 9, ints .u8 ([49, 50, 51, 52, 53, 54, 55, 56, 57]), true⟩) rfl) (by unfold ByteL; decide) (by first | rfl | simp | (simp [upd]; done))) (Big.one (by first | omega | decide | simp))))) ?_
  rintro _ _ ⟨rfl, rfl⟩
  refine wr_rows (R1 := [⟨22, 1, (some ⟨g_5, 0, none⟩), 1, 1, [.slice (some ⟨g_3, 0, none⟩) 9 9], false⟩, ⟨5, 1, (some ⟨g_3, 0, none⟩), 9, 9, ints .u8 ([49, 50, 51, 52, 53, 54, 55, 56, 57]), true⟩, crcRow 67 g_1 1 0 (0 + 1) ctab]) rfl ?_
  refine wr_yes rfl rfl ?_
  refine wr_y rfl (Yl.t (y_eqU (p := csum ([[49, 50, 51, 52, 53, 54, 55, 56, 57]]).flatten) (q := 3421780262#32) rfl rfl) (by decide +kernel)) ?_
  refine wr_y rfl (y_pickT rfl rfl) ?_
  refine wr_y rfl (y_move rfl) ?_
  refine wr_yes rfl rfl ?_
  refine wr_y rfl (y_move rfl) ?_
  refine wr_yes rfl rfl ?_
  refine wr_a rfl (a_callF en25 rfl (Ct.at 2 rfl (crcRuns_ct (by omega)))) ?_
  rintro _ _ ⟨rfl, rfl⟩
  refine wr_rows (R1 := [⟨22, 1, (some ⟨g_5, 0, none⟩), 1, 1, [.slice (some ⟨g_3, 0, none⟩) 9 9], false⟩, ⟨5, 1, (some ⟨g_3, 0, none⟩), 9, 9, ints .u8 ([49, 50, 51, 52, 53, 54, 55, 56, 57]), true⟩, crcRow 67 g_1 1 0 (0 + 1) ctab]) rfl ?_
  refine wr_yes rfl rfl ?_
  refine wr_y rfl (Yl.t (y_eq rfl rfl) (by decide)) ?_
  refine wr_y rfl (y_pickT rfl rfl) ?_
  refine wr_y rfl (y_assign rfl) ?_
  refine wr_nil ?_
  refine w_retR (R1 := []) (fun _ h => h.sel [] (by decide) rfl) ?_
  refine ⟨_, rfl, ?_⟩
  rfl

/-! whorl/whorllaw2.CrcSums -/
set_option maxRecDepth 100000 in
theorem crcSums_ct {w : World} {A_u : Option Addr} {n_u c_u : Nat} {u : List Int} (h_u : Rd w A_u n_u c_u 1 (ints .u8 u)) (bh_u : ByteL u) :
    Ct Try.prog 7 #[.slice A_u n_u c_u] w.heap.size w [] (fun v R' => v = .bool true) := by
  obtain rfl := h_u.lenI
  refine fn1 Try.func7 rfl rfl rfl ?_
  have m_u := h_u.max
  refine w_seq ?_
  refine w_reg ?_
  refine wr_y rfl (y_assign rfl) ?_
  refine wr_nil ?_
  refine w_seq ?_
  refine w_seq ?_
  refine w_reg ?_
  refine wr_y rfl (y_move rfl) ?_
  refine wr_y rfl (y_len Try.underlying22 rfl) ?_
  refine wr_y rfl (y_gt rfl rfl) ?_
  refine wr_nil ?_
  refine w_if rfl (fun hc1 => ?_) (fun hc1 => ?_)
  ·
    refine w_seq ?_
    refine w_reg ?_
    refine wr_y rfl (y_assign rfl) ?_
    refine wr_nil ?_
    refine w_ret ?_
    refine ⟨_, rfl, ?_⟩
    rfl
  ·
    refine w_skip ?_
    refine w_seq ?_
    refine w_reg ?_
    refine wr_a rfl (a_callF en19 rfl (Ct.fresh (fun w hw => crcNew_ct))) ?_
    rintro _ _ ⟨_, rfl, g_1, rfl, rfl⟩
    refine wr_y rfl (y_assign rfl) ?_
    refine wr_nil ?_
    refine w_seq ?_
    refine w_reg ?_
    refine wr_y rfl (y_move rfl) ?_
    refine wr_y rfl (y_ptrNe Try.underlying31 rfl rfl) ?_
    refine wr_y rfl (y_move rfl) ?_
    refine wr_yes rfl rfl ?_
    refine wr_y rfl (y_move rfl) ?_
    refine wr_yes rfl rfl ?_
    refine wr_y rfl (y_move rfl) ?_
    refine wr_yes rfl rfl ?_
    refine wr_a rfl (a_lit [.slice A_u u.length c_u] Try.underlying45 zs22 rfl rfl rfl rfl) ?_
    rintro _ _ ⟨g_3, rfl, rfl⟩
    refine wr_yes rfl rfl ?_
    refine wr_a rfl (a_callF en20 rfl (Ct.at 1 rfl (crcSum_ct (ls := [u]) (.inl ⟨rfl, rfl, List.length_replicate .., by omega⟩) (rdR 0 (r := ⟨22, 1, (some ⟨g_3, 0, none⟩), 1, 1, [.slice A_u u.length c_u], false⟩) rfl) rfl (SlRd.one (l := u) (h_u.c _) bh_u (by first | rfl | simp | (simp [upd]; done))) (Big.one (by first | omega | decide | simp))))) ?_
    rintro _ _ ⟨rfl, rfl⟩
    refine wr_rows (R1 := [⟨22, 1, (some ⟨g_3, 0, none⟩), 1, 1, [.slice A_u u.length c_u], false⟩, crcRow 67 g_1 1 0 (0 + 1) ctab]) rfl ?_
    refine wr_yes rfl rfl ?_
    refine wr_y rfl (y_move rfl) ?_
    refine wr_yes rfl rfl ?_
    refine wr_a rfl (a_callF en21 rfl (Ct.quiet (fun w hw => sum2_ct ((h_u.c _) w hw) (by first | assumption | omega | decide)))) ?_
    rintro _ _ ⟨rfl, rfl⟩
    refine wr_yes rfl rfl ?_
    refine wr_y rfl (Yl.t (y_eqU (p := csum ([u]).flatten) (q := csum u) rfl rfl) (by simp)) ?_
    refine wr_y rfl (y_pickT rfl rfl) ?_
    refine wr_y rfl (y_move rfl) ?_
    refine wr_yes rfl rfl ?_
    refine wr_a rfl (a_callF en22 rfl (Ct.quiet (fun w hw => known2_ct))) ?_
    rintro _ _ ⟨rfl, rfl⟩
    refine wr_y rfl (y_pickT rfl rfl) ?_
    refine wr_y rfl (y_assign rfl) ?_
    refine wr_nil ?_
    refine w_retR (R1 := []) (fun _ h => h.sel [] (by decide) rfl) ?_
    refine ⟨_, rfl, ?_⟩
    rfl

end Go.Proofs.Ytffekklhmdoceaa
