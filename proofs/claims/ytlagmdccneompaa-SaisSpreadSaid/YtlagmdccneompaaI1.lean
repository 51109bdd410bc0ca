/- Walks of Go functions, printed by a program of our own. -/
import Derived.Test.YtlagmdccneompaaG5
import Derived.Test.YtlagmdccneompaaS3
import Derived.Test.YtlagmdccneompaaE20
import Derived.Test.YtlagmdccneompaaE22
import Derived.Test.YtlagmdccneompaaQ25
namespace Go.Proofs.Ytlagmdccneompaa
open Go Go.Eng Go.Pure
set_option linter.unusedVariables false
/-! slices.Equal[[]int,int] -/
set_option maxRecDepth 100000 in
theorem equalI_ct {w : World} {A_l : Option Addr} {n_l c_l : Nat} {l : List Int} {A_m : Option Addr} {n_m c_m : Nat} {m : List Int} (h_l : Rd w A_l n_l c_l 1 (ints .i64 l)) (h_m : Rd w A_m n_m c_m 1 (ints .i64 m)) (hN : l.length ≤ 1000000) :
    Ct Try.prog 47 #[.slice A_l n_l c_l, .slice A_m n_m c_m] w.heap.size w [] (fun v R' => v = .bool (decide (l = m))) := by
  obtain rfl := h_l.lenI
  obtain rfl := h_m.lenI
  refine fn1 Try.func47 rfl rfl rfl ?_
  have m_l := h_l.max
  have m_m := h_m.max
  refine w_seq ?_
  refine w_reg ?_
  refine wr_y rfl (y_assign rfl) ?_
  refine wr_nil ?_
  refine w_seq ?_
  refine w_seq ?_
  refine w_reg ?_
  refine wr_y rfl (y_move rfl) ?_
  refine wr_y rfl (y_len Try.underlying22 rfl) ?_
  refine wr_y rfl (y_move rfl) ?_
  refine wr_y rfl (y_len Try.underlying22 rfl) ?_
  refine wr_y rfl (y_ne rfl rfl) ?_
  refine wr_nil ?_
  refine w_if rfl (fun hc1 => ?_) (fun hc1 => ?_)
  ·
    refine w_seq ?_
    refine w_reg ?_
    refine wr_y rfl (y_assign rfl) ?_
    refine wr_nil ?_
    refine w_ret ?_
    refine ⟨_, rfl, ?_⟩
    exact congrArg Value.bool (decide_eq_false (fun e => by rw [e] at hc1; exact hc1 rfl)).symm
  ·
    refine w_skip ?_
    refine w_seq ?_
    refine w_seq ?_
    refine w_reg ?_
    refine wr_y rfl (y_move rfl) ?_
    refine wr_y rfl (y_len Try.underlying22 rfl) ?_
    refine wr_y rfl (y_move rfl) ?_
    refine wr_nil ?_
    refine w_block ?_
    refine w_loop1 (fun (k : Int) => [(0, .slice A_l l.length c_l), (1, .slice A_m m.length c_m), (12, .int .i64 ((l.length : Nat) : Int)), (13, .int .i64 k)]) (fun (k : Int) => []) (fun (k : Int) => (0 ≤ k) ∧ (k ≤ l.length) ∧ (l.take k.toNat = m.take k.toNat)) (fun (k : Int) => (l.length - k).toNat) ?_ ?_
    ·
      exact ⟨0, ⟨(by omega), (by omega), (rfl)⟩, (Sub.cons rfl (Sub.cons rfl (Sub.cons rfl (Sub.cons rfl Sub.nil)))), fun _ h => h⟩
    intro k ⟨hk0, hk1, hq⟩
    refine w_seq ?_
    refine w_reg ?_
    refine wr_y rfl (y_lt rfl rfl) ?_
    refine wr_nil ?_
    refine w_seq ?_
    refine w_if rfl (fun hc2 => ?_) (fun hc2 => ?_)
    ·
      refine w_skip ?_
      refine w_seq ?_
      refine w_block ?_
      refine w_seq ?_
      refine w_reg ?_
      refine wr_y rfl (y_move rfl) ?_
      refine wr_y rfl (y_assign rfl) ?_
      refine wr_nil ?_
      refine w_seq ?_
      refine w_regd mixed ?_
      refine wd_y 0 rfl (by kernel_rfl) rfl (y_move rfl) ?_
      refine wd_y 1 rfl (by kernel_rfl) rfl (y_move rfl) ?_
      refine wd_y 2 rfl (by kernel_rfl) rfl (y_index1 Try.underlying22 sz3 rfl rfl (h_l.c _) (by omega) (by omega)) ?_
      refine wd_y 3 rfl (by kernel_rfl) rfl (y_ldI Try.underlying3 rfl rfl (h_l.c _) (by omega) (by omega)) ?_
      refine wd_y 4 rfl (by kernel_rfl) rfl (y_move rfl) ?_
      refine wd_y 5 rfl (by kernel_rfl) rfl (y_move rfl) ?_
      refine wd_y 6 rfl (by kernel_rfl) rfl (y_index1 Try.underlying22 sz3 rfl rfl (h_m.c _) (by omega) (by omega)) ?_
      refine wd_y 7 rfl (by kernel_rfl) rfl (y_ldI Try.underlying3 rfl rfl (h_m.c _) (by omega) (by omega)) ?_
      refine wd_y 8 rfl (by kernel_rfl) rfl (y_ne rfl rfl) ?_
      refine wd_nil (by kernel_rfl) ?_
      refine w_if rfl (fun hc3 => ?_) (fun hc3 => ?_)
      ·
        refine w_seq ?_
        refine w_reg ?_
        refine wr_y rfl (y_assign rfl) ?_
        refine wr_nil ?_
        refine w_ret ?_
        refine ⟨_, rfl, ?_⟩
        exact congrArg Value.bool (decide_eq_false (fun e => by subst e; exact hc3 rfl)).symm
      ·
        refine w_skip ?_
        refine w_reg ?_
        refine wr_y rfl (y_addI rfl rfl (by omega)) ?_
        refine wr_y rfl (y_move rfl) ?_
        refine wr_nil ?_
        exact ⟨k + 1, ⟨(by omega), (by omega), (by rw [take_rd hk0 (by omega), take_rd hk0 (by omega), hq]; exact congrArg (fun z => List.take k.toNat m ++ [z]) (Decidable.not_not.1 (by assumption)))⟩, (by omega), (Sub.cons rfl (Sub.cons rfl (Sub.cons rfl (Sub.cons rfl Sub.nil)))), fun _ h => h⟩
    ·
      refine w_exit ?_
      refine w_seq ?_
      refine w_reg ?_
      refine wr_y rfl (y_assign rfl) ?_
      refine wr_nil ?_
      refine w_ret ?_
      refine ⟨_, rfl, ?_⟩
      exact congrArg Value.bool (decide_eq_true (by rw [List.take_of_length_le (by omega), List.take_of_length_le (by omega)] at hq; exact hq)).symm

theorem mul_ct {B : Nat} {w0 : World} {R : List Row} (N : Nat) (h : N ≤ 1000000) : Ct Try.prog 68 #[.int .u64 1, .int .u64 ((N : Nat) : Int)] B w0 R (fun v R' => v = .tuple #[.int .u64 0, .int .u64 ((N : Nat) : Int)] ∧ R' = R) := by
  intro w hw
  have hc := Try.bits_Mul 1 N (by omega) (by omega) w
  rw [Nat.one_mul, Nat.div_eq_of_lt (by omega), Nat.mod_eq_of_lt (by omega)] at hc
  refine hc.mono ?_
  rintro e w' ⟨rfl, rfl⟩
  exact ⟨_, R, rfl, hw, rfl, rfl⟩
theorem wrap_u64N {p : Int} (h : 0 ≤ p ∧ p ≤ 18446744073709551615) : IntKind.u64.wrap p = p := by rw [IntKind.wrap_u64]; omega
theorem rep_step {D : List Int} {val : Int} {N : Nat} {p : Int} (p1 : 1 ≤ p) (hp : p ≤ N) (hD : D = repl val p.toNat N) :
    List.take p.toNat D ++ List.take (min p.toNat (N - p.toNat)) (List.take p.toNat D) ++ List.drop (p.toNat + min p.toNat (N - p.toNat)) D = repl val (p + ((min p.toNat (N - p.toNat) : Nat) : Int)).toNat N := by
  subst hD
  rw [show (p + ((min p.toNat (N - p.toNat) : Nat) : Int)).toNat = p.toNat + min p.toNat (N - p.toNat) by omega]
  refine repl_copy (by omega) ?_
  rw [repl_take, List.take_replicate]
  congr 1
  omega
theorem rep_init {val : Int} {N : Nat} (h : 1 ≤ N) : List.take 0 (List.replicate N (0 : Int)) ++ List.take (min ([val].length) (N - 0)) [val] ++ List.drop (0 + min ([val].length) (N - 0)) (List.replicate N (0 : Int)) = repl val (((min ([val].length) (N - 0) : Nat) : Int)).toNat N := by
  have e : min ([val].length) (N - 0) = 1 := by simp; omega
  rw [e, ← repl_zero val N]
  exact repl_copy (p := 0) (q := 1) (by omega) rfl
/-! slices.Repeat[[]int,int] -/
set_option maxRecDepth 100000 in
set_option maxHeartbeats 800000 in
theorem repeatI_ct {w : World} {A_x : Option Addr} {n_x c_x : Nat} {x : List Int} {cn : Int} {val : Int} {N : Nat} (h_x : Rd w A_x n_x c_x 1 (ints .i64 x)) (hx : x = [val]) (hcn : cn = ((N : Nat) : Int)) (hN : 1 ≤ N ∧ N ≤ 1000000) :
    Ct Try.prog 50 #[.slice A_x n_x c_x, .int .i64 cn] w.heap.size w [] (fun v R' => ∃ A c, v = .slice A N c ∧ R' = [⟨3, 1, A, N, c, ints .i64 (List.replicate N val), false⟩]) := by
  obtain rfl := h_x.lenI
  refine fn1 Try.func50 rfl rfl rfl ?_
  have m_x := h_x.max
  refine w_seq ?_
  refine w_reg ?_
  refine wr_y rfl (y_assign rfl) ?_
  refine wr_nil ?_
  refine w_seq ?_
  refine w_seq ?_
  refine w_reg ?_
  refine wr_y rfl (y_move rfl) ?_
  refine wr_y rfl (Yl.f (y_lt rfl rfl) (by omega)) ?_
  refine wr_nil ?_
  refine w_false rfl ?_
  refine w_skip ?_
  refine w_seq ?_
  refine w_reg ?_
  refine wr_y rfl (y_move rfl) ?_
  refine wr_y rfl (y_len Try.underlying22 rfl) ?_
  refine wr_y rfl (Yl.is (y_conv Try.underlying3 Try.underlying70 rfl) (by rw [hx])) ?_
  refine wr_y rfl (y_move rfl) ?_
  refine wr_y rfl (Yl.is (y_conv Try.underlying3 Try.underlying70 rfl) (by rw [wrap_u64N (by omega), hcn])) ?_
  refine wr_a rfl (a_callF en68 rfl (mul_ct N hN.2)) ?_
  rintro _ _ ⟨rfl, rfl⟩
  refine wr_y rfl (y_move rfl) ?_
  refine wr_y rfl (y_extract rfl rfl) ?_
  refine wr_y rfl (y_extract rfl rfl) ?_
  refine wr_y rfl (y_assign rfl) ?_
  refine wr_y rfl (y_assign rfl) ?_
  refine wr_nil ?_
  refine w_seq ?_
  refine w_seq ?_
  refine w_reg ?_
  refine wr_y rfl (y_move rfl) ?_
  refine wr_y rfl (Yl.f (y_gt rfl rfl) (by omega)) ?_
  refine wr_y rfl (y_move rfl) ?_
  refine wr_yes rfl rfl ?_
  refine wr_y rfl (y_move rfl) ?_
  refine wr_yes rfl rfl ?_
  refine wr_y rfl (Yl.f (y_gt rfl rfl) (by omega)) ?_
  refine wr_y rfl (y_pickF rfl rfl) ?_
  refine wr_nil ?_
  refine w_false rfl ?_
  refine w_skip ?_
  refine w_seq ?_
  refine w_reg ?_
  refine wr_y rfl (y_move rfl) ?_
  refine wr_y rfl (y_convI Try.underlying70 Try.underlying3 rfl (by omega)) ?_
  refine wr_a rfl (a_makeN Try.underlying22 zb3 rfl rfl (by omega) (by omega) (by omega)) ?_
  rintro _ _ ⟨g_1, rfl, rfl⟩
  refine wr_rows (R1 := [⟨3, 1, (some ⟨g_1, 0, none⟩), N, N, ints .i64 (List.replicate N (0 : Int)), false⟩]) rfl ?_
  refine wr_as (v := .slice (some ⟨g_1, 0, none⟩) N N) rfl ?_
  refine wr_y rfl (y_assign rfl) ?_
  refine wr_nil ?_
  refine w_seq ?_
  refine w_reg ?_
  refine wr_y rfl (y_move rfl) ?_
  refine wr_y rfl (y_move rfl) ?_
  refine wr_a rfl (a_copyI (lo := 0) 0 rfl Try.underlying22 sz3 rfl rfl cut_zero rfl (by omega) (h_x.c _)) ?_
  rintro _ _ ⟨rfl, rfl⟩
  refine wr_rows (R1 := [⟨3, 1, (some ⟨g_1, 0, none⟩), N, N, ints .i64 (List.take 0 (List.replicate N (0 : Int)) ++ List.take (min x.length (N - 0)) x ++ List.drop (0 + min x.length (N - 0)) (List.replicate N (0 : Int))), false⟩]) rfl ?_
  refine wr_y rfl (y_assign rfl) ?_
  refine wr_nil ?_
  refine w_seq ?_
  refine w_block ?_
  refine w_loop2 (fun (p : Int) (D : List Int) => [(7, .slice (some ⟨g_1, 0, none⟩) N N), (8, .int .i64 p)]) (fun (p : Int) (D : List Int) => [⟨3, 1, (some ⟨g_1, 0, none⟩), N, N, ints .i64 D, false⟩]) (fun (p : Int) (D : List Int) => (1 ≤ p) ∧ (p ≤ N) ∧ (D = repl val p.toNat N)) (fun (p : Int) (D : List Int) => (N - p).toNat) ?_ ?_
  ·
    exact ⟨((min x.length (N - 0) : Nat) : Int), List.take 0 (List.replicate N (0 : Int)) ++ List.take (min x.length (N - 0)) x ++ List.drop (0 + min x.length (N - 0)) (List.replicate N (0 : Int)), ⟨(by subst hx; simp; omega), (by omega), (by subst hx; exact rep_init hN.1)⟩, (Sub.cons rfl (Sub.cons rfl Sub.nil)), fun _ h => h⟩
  intro p D ⟨hp0, hp1, hD⟩
  refine w_seq ?_
  refine w_seq ?_
  refine w_reg ?_
  refine wr_y rfl (y_move rfl) ?_
  refine wr_y rfl (y_move rfl) ?_
  refine wr_y rfl (y_len Try.underlying22 rfl) ?_
  refine wr_y rfl (y_lt rfl rfl) ?_
  refine wr_nil ?_
  refine w_if rfl (fun hc1 => ?_) (fun hc1 => ?_)
  ·
    refine w_skip ?_
    refine w_block ?_
    refine w_regd mixed ?_
    refine wd_y 0 rfl (by kernel_rfl) rfl (y_move rfl) ?_
    refine wd_y 1 rfl (by kernel_rfl) rfl (y_move rfl) ?_
    refine wd_y 2 rfl (by kernel_rfl) rfl (y_move rfl) ?_
    refine wd_y 3 rfl (by kernel_rfl) rfl (y_sliceFrom Try.underlying22 sz3 rfl rfl (by omega) (by omega)) ?_
    refine wd_y 4 rfl (by kernel_rfl) rfl (y_move rfl) ?_
    refine wd_y 5 rfl (by kernel_rfl) rfl (y_move rfl) ?_
    refine wd_y 6 rfl (by kernel_rfl) rfl (y_sliceTo Try.underlying22 sz3 rfl rfl (rdr 0 rfl) (by omega) (by omega)) ?_
    refine wd_a 7 rfl (by kernel_rfl) rfl (a_copyI (lo := p.toNat) 0 rfl Try.underlying22 sz3 rfl rfl rfl rfl (by omega) (RdC.toI (rdr 0 rfl) (by omega))) ?_
    rintro _ _ ⟨rfl, rfl⟩
    refine ⟨.inl (by kernel_rfl), ?_⟩
    refine wd_rows (R1 := [⟨3, 1, (some ⟨g_1, 0, none⟩), N, N, ints .i64 (List.take p.toNat D ++ List.take (min ((p).toNat) (N - p.toNat)) ((D).take (p).toNat) ++ List.drop (p.toNat + min ((p).toNat) (N - p.toNat)) D), false⟩]) rfl ?_
    refine wd_y 8 rfl (by kernel_rfl) rfl (y_addI rfl rfl (by omega)) ?_
    refine wd_y 9 rfl (by kernel_rfl) rfl (y_assign rfl) ?_
    refine wd_nil (by kernel_rfl) ?_
    exact ⟨p + ((min ((p).toNat) (N - p.toNat) : Nat) : Int), List.take p.toNat D ++ List.take (min ((p).toNat) (N - p.toNat)) ((D).take (p).toNat) ++ List.drop (p.toNat + min ((p).toNat) (N - p.toNat)) D, ⟨(by omega), (by omega), (rep_step hp0 hp1 hD)⟩, (by omega), (Sub.cons rfl (Sub.cons rfl Sub.nil)), fun _ h => h⟩
  ·
    refine w_exit ?_
    refine w_seq ?_
    refine w_reg ?_
    refine wr_y rfl (y_move rfl) ?_
    refine wr_y rfl (y_assign rfl) ?_
    refine wr_nil ?_
    refine w_retR (R1 := [⟨3, 1, (some ⟨g_1, 0, none⟩), N, N, ints .i64 D, false⟩]) (fun _ h => h.sel [0] (by decide) rfl) ?_
    refine ⟨_, rfl, ?_⟩
    obtain rfl : D = List.replicate N val := by rw [hD, show p.toNat = N by omega]; exact repl_all _ _
    exact ⟨_, _, rfl, rfl⟩

/-! whorl/kinds.Small -/
set_option maxRecDepth 100000 in
set_option maxHeartbeats 600000 in
theorem small_ct {w : World} {A_s : Option Addr} {n_s c_s : Nat} {s : List Int} (h_s : Rd w A_s n_s c_s 1 (ints .i64 s)) (hN : s.length ≤ 1000000) :
    Ct Try.prog 49 #[.slice A_s n_s c_s] w.heap.size w [] (fun v R' => ∃ A c, v = .slice A s.length c ∧ R' = [⟨4, 1, A, s.length, c, bools (smL s), false⟩]) := by
  obtain rfl := h_s.lenI
  refine fn1 Try.func49 rfl rfl rfl ?_
  have m_s := h_s.max
  refine w_seq ?_
  refine w_reg ?_
  refine wr_y rfl (y_assign rfl) ?_
  refine wr_nil ?_
  refine w_seq ?_
  refine w_reg ?_
  refine wr_y rfl (y_move rfl) ?_
  refine wr_y rfl (y_len Try.underlying22 rfl) ?_
  refine wr_a rfl (a_makeB Try.underlying55 zb4 rfl rfl (by omega) (by omega) (by omega)) ?_
  rintro _ _ ⟨g_1, rfl, rfl⟩
  refine wr_rows (R1 := [⟨4, 1, (some ⟨g_1, 0, none⟩), s.length, s.length, bools (List.replicate s.length false), false⟩]) rfl ?_
  refine wr_as (v := .slice (some ⟨g_1, 0, none⟩) s.length s.length) rfl ?_
  refine wr_y rfl (y_assign rfl) ?_
  refine wr_nil ?_
  refine w_seq ?_
  refine w_seq ?_
  refine w_reg ?_
  refine wr_y rfl (y_move rfl) ?_
  refine wr_y rfl (y_len Try.underlying22 rfl) ?_
  refine wr_y rfl (y_subI rfl rfl (by omega)) ?_
  refine wr_y rfl (y_assign rfl) ?_
  refine wr_nil ?_
  refine w_block ?_
  refine w_loop2 (fun (i : Int) (m : List Bool) => [(0, .slice A_s s.length c_s), (3, .slice (some ⟨g_1, 0, none⟩) s.length s.length), (4, .int .i64 i)]) (fun (i : Int) (m : List Bool) => [⟨4, 1, (some ⟨g_1, 0, none⟩), s.length, s.length, bools m, false⟩]) (fun (i : Int) (m : List Bool) => (-2 ≤ i) ∧ (i + 2 ≤ s.length) ∧ (m.length = s.length) ∧ (∀ j : Int, 0 ≤ j → i < j → j < s.length → rdb m j = smB s j)) (fun (i : Int) (m : List Bool) => (i + 1).toNat) ?_ ?_
  ·
    exact ⟨((s.length : Nat) : Int) - 2, List.replicate s.length false, ⟨(by omega), (by omega), (by rw [List.length_replicate]), (fun j h0 h1 h2 => by rw [rdb_rep, smB_last h0 (by omega)])⟩, (Sub.cons rfl (Sub.cons rfl (Sub.cons rfl Sub.nil))), fun _ h => h⟩
  intro i m ⟨hi0, hi1, hl, hM⟩
  refine w_seq ?_
  refine w_seq ?_
  refine w_reg ?_
  refine wr_y rfl (y_move rfl) ?_
  refine wr_y rfl (y_ge rfl rfl) ?_
  refine wr_nil ?_
  refine w_if rfl (fun hc1 => ?_) (fun hc1 => ?_)
  ·
    refine w_skip ?_
    refine w_seq ?_
    refine w_block ?_
    refine w_regd mixed ?_
    refine wd_y 0 rfl (by kernel_rfl) rfl (y_move rfl) ?_
    refine wd_y 1 rfl (by kernel_rfl) rfl (y_move rfl) ?_
    refine wd_y 2 rfl (by kernel_rfl) rfl (y_move rfl) ?_
    refine wd_y 3 rfl (by kernel_rfl) rfl (y_move rfl) ?_
    refine wd_y 4 rfl (by kernel_rfl) rfl (y_index1 Try.underlying22 sz3 rfl rfl (h_s.c _) (by omega) (by omega)) ?_
    refine wd_y 5 rfl (by kernel_rfl) rfl (y_ldI Try.underlying3 rfl rfl (h_s.c _) (by omega) (by omega)) ?_
    refine wd_y 6 rfl (by kernel_rfl) rfl (y_move rfl) ?_
    refine wd_y 7 rfl (by kernel_rfl) rfl (y_move rfl) ?_
    refine wd_y 8 rfl (by kernel_rfl) rfl (y_addI rfl rfl (by omega)) ?_
    refine wd_y 9 rfl (by kernel_rfl) rfl (y_index1 Try.underlying22 sz3 rfl rfl (h_s.c _) (by omega) (by omega)) ?_
    refine wd_y 10 rfl (by kernel_rfl) rfl (y_ldI Try.underlying3 rfl rfl (h_s.c _) (by omega) (by omega)) ?_
    refine wd_y 11 rfl (by kernel_rfl) rfl (y_lt rfl rfl) ?_
    refine wd_y 12 rfl (by kernel_rfl) rfl (y_move rfl) ?_
    refine wd_case 27 rfl (fun hc2 => ?_) (fun hc2 => ?_)
    ·
      refine wd_no 13 rfl (by kernel_rfl) rfl rfl rfl rfl ?_
      refine wd_no 14 rfl (by kernel_rfl) rfl rfl rfl rfl ?_
      refine wd_no 15 rfl (by kernel_rfl) rfl rfl rfl rfl ?_
      refine wd_no 16 rfl (by kernel_rfl) rfl rfl rfl rfl ?_
      refine wd_no 17 rfl (by kernel_rfl) rfl rfl rfl rfl ?_
      refine wd_no 18 rfl (by kernel_rfl) rfl rfl rfl rfl ?_
      refine wd_no 19 rfl (by kernel_rfl) rfl rfl rfl rfl ?_
      refine wd_no 20 rfl (by kernel_rfl) rfl rfl rfl rfl ?_
      refine wd_no 21 rfl (by kernel_rfl) rfl rfl rfl rfl ?_
      refine wd_no 22 rfl (by kernel_rfl) rfl rfl rfl rfl ?_
      refine wd_no 23 rfl (by kernel_rfl) rfl rfl rfl rfl ?_
      refine wd_nou 24 rfl (by kernel_rfl) rfl rfl rfl ?_
      refine wd_nou 25 rfl (by kernel_rfl) rfl rfl rfl ?_
      refine wd_nou 26 rfl (by kernel_rfl) rfl rfl rfl ?_
      refine wd_nou 27 rfl (by kernel_rfl) rfl rfl rfl ?_
      refine wd_nou 28 rfl (by kernel_rfl) rfl rfl rfl ?_
      refine wd_no 29 rfl (by kernel_rfl) rfl rfl rfl rfl ?_
      refine wd_y 30 rfl (by kernel_rfl) rfl (y_pickT rfl rfl) ?_
      refine wd_y 31 rfl (by kernel_rfl) rfl (y_index1 Try.underlying55 sz4 rfl rfl (rdr 0 rfl) (by omega) (by omega)) ?_
      refine wd_n 32 rfl (by kernel_rfl) (a_storeB 0 rfl sz4 rfl rfl (by omega) (by omega)) ?_
      rintro _ _ rfl
      refine ⟨.inl (by kernel_rfl), ?_⟩
      refine wd_rows (R1 := [⟨4, 1, (some ⟨g_1, 0, none⟩), s.length, s.length, bools (updB m i true), false⟩]) rfl ?_
      refine wd_nil (by kernel_rfl) ?_
      refine w_reg ?_
      refine wr_y rfl (y_move rfl) ?_
      refine wr_y rfl (y_subI rfl rfl (by omega)) ?_
      refine wr_y rfl (y_assign rfl) ?_
      refine wr_nil ?_
      exact ⟨i - 1, updB m i true, ⟨(by omega), (by omega), (by rw [updB_len]; exact hl), (fun j h0 h1 h2 => sm_step (by omega) (by omega) hl (fun j a b => hM j (by omega) a b) (⟨fun _ => .inl (by omega), fun _ => rfl⟩) j (by omega) h2)⟩, (by omega), (Sub.cons rfl (Sub.cons rfl (Sub.cons rfl Sub.nil))), fun _ h => h⟩
    ·
      refine wd_yg 13 rfl (by kernel_rfl) rfl rfl rfl (y_move rfl) ?_
      refine wd_yg 14 rfl (by kernel_rfl) rfl rfl rfl (y_move rfl) ?_
      refine wd_yg 15 rfl (by kernel_rfl) rfl rfl rfl (y_index1 Try.underlying22 sz3 rfl rfl (h_s.c _) (by omega) (by omega)) ?_
      refine wd_yg 16 rfl (by kernel_rfl) rfl rfl rfl (y_ldI Try.underlying3 rfl rfl (h_s.c _) (by omega) (by omega)) ?_
      refine wd_yg 17 rfl (by kernel_rfl) rfl rfl rfl (y_move rfl) ?_
      refine wd_yg 18 rfl (by kernel_rfl) rfl rfl rfl (y_move rfl) ?_
      refine wd_yg 19 rfl (by kernel_rfl) rfl rfl rfl (y_addI rfl rfl (by omega)) ?_
      refine wd_yg 20 rfl (by kernel_rfl) rfl rfl rfl (y_index1 Try.underlying22 sz3 rfl rfl (h_s.c _) (by omega) (by omega)) ?_
      refine wd_yg 21 rfl (by kernel_rfl) rfl rfl rfl (y_ldI Try.underlying3 rfl rfl (h_s.c _) (by omega) (by omega)) ?_
      refine wd_yg 22 rfl (by kernel_rfl) rfl rfl rfl (y_eq rfl rfl) ?_
      refine wd_yg 23 rfl (by kernel_rfl) rfl rfl rfl (y_move rfl) ?_
      refine wd_case 38 rfl (fun hc3 => ?_) (fun hc3 => ?_)
      ·
        refine wd_yg 24 rfl (by kernel_rfl) rfl rfl rfl (y_move rfl) ?_
        refine wd_yg 25 rfl (by kernel_rfl) rfl rfl rfl (y_move rfl) ?_
        refine wd_yg 26 rfl (by kernel_rfl) rfl rfl rfl (y_addI rfl rfl (by omega)) ?_
        refine wd_yg 27 rfl (by kernel_rfl) rfl rfl rfl (y_index1 Try.underlying55 sz4 rfl rfl (rdr 0 rfl) (by omega) (by omega)) ?_
        refine wd_yg 28 rfl (by kernel_rfl) rfl rfl rfl (y_ldB Try.underlying4 rfl rfl (rdr 0 rfl) (by omega) (by omega)) ?_
        refine wd_yg 29 rfl (by kernel_rfl) rfl rfl rfl (y_pickT rfl rfl) ?_
        refine wd_y 30 rfl (by kernel_rfl) rfl (y_pickF rfl rfl) ?_
        refine wd_y 31 rfl (by kernel_rfl) rfl (y_index1 Try.underlying55 sz4 rfl rfl (rdr 0 rfl) (by omega) (by omega)) ?_
        refine wd_n 32 rfl (by kernel_rfl) (a_storeB 0 rfl sz4 rfl rfl (by omega) (by omega)) ?_
        rintro _ _ rfl
        refine ⟨.inl (by kernel_rfl), ?_⟩
        refine wd_rows (R1 := [⟨4, 1, (some ⟨g_1, 0, none⟩), s.length, s.length, bools (updB m i (decide (rdb m (i + 1) = true))), false⟩]) rfl ?_
        refine wd_nil (by kernel_rfl) ?_
        refine w_reg ?_
        refine wr_y rfl (y_move rfl) ?_
        refine wr_y rfl (y_subI rfl rfl (by omega)) ?_
        refine wr_y rfl (y_assign rfl) ?_
        refine wr_nil ?_
        exact ⟨i - 1, updB m i (decide (rdb m (i + 1) = true)), ⟨(by omega), (by omega), (by rw [updB_len]; exact hl), (fun j h0 h1 h2 => sm_step (by omega) (by omega) hl (fun j a b => hM j (by omega) a b) (by rw [decide_eq_true_iff]; exact ⟨fun h => .inr ⟨by omega, h⟩, fun h => (h.resolve_left (by omega)).2⟩) j (by omega) h2)⟩, (by omega), (Sub.cons rfl (Sub.cons rfl (Sub.cons rfl Sub.nil))), fun _ h => h⟩
      ·
        refine wd_no 24 rfl (by kernel_rfl) rfl rfl rfl rfl ?_
        refine wd_no 25 rfl (by kernel_rfl) rfl rfl rfl rfl ?_
        refine wd_no 26 rfl (by kernel_rfl) rfl rfl rfl rfl ?_
        refine wd_no 27 rfl (by kernel_rfl) rfl rfl rfl rfl ?_
        refine wd_no 28 rfl (by kernel_rfl) rfl rfl rfl rfl ?_
        refine wd_yg 29 rfl (by kernel_rfl) rfl rfl rfl (y_pickF rfl rfl) ?_
        refine wd_y 30 rfl (by kernel_rfl) rfl (y_pickF rfl rfl) ?_
        refine wd_y 31 rfl (by kernel_rfl) rfl (y_index1 Try.underlying55 sz4 rfl rfl (rdr 0 rfl) (by omega) (by omega)) ?_
        refine wd_n 32 rfl (by kernel_rfl) (a_storeB 0 rfl sz4 rfl rfl (by omega) (by omega)) ?_
        rintro _ _ rfl
        refine ⟨.inl (by kernel_rfl), ?_⟩
        refine wd_rows (R1 := [⟨4, 1, (some ⟨g_1, 0, none⟩), s.length, s.length, bools (updB m i false), false⟩]) rfl ?_
        refine wd_nil (by kernel_rfl) ?_
        refine w_reg ?_
        refine wr_y rfl (y_move rfl) ?_
        refine wr_y rfl (y_subI rfl rfl (by omega)) ?_
        refine wr_y rfl (y_assign rfl) ?_
        refine wr_nil ?_
        exact ⟨i - 1, updB m i false, ⟨(by omega), (by omega), (by rw [updB_len]; exact hl), (fun j h0 h1 h2 => sm_step (by omega) (by omega) hl (fun j a b => hM j (by omega) a b) (⟨fun h => (by cases h), fun h => absurd h (by omega)⟩) j (by omega) h2)⟩, (by omega), (Sub.cons rfl (Sub.cons rfl (Sub.cons rfl Sub.nil))), fun _ h => h⟩
  ·
    refine w_exit ?_
    refine w_seq ?_
    refine w_reg ?_
    refine wr_y rfl (y_move rfl) ?_
    refine wr_y rfl (y_assign rfl) ?_
    refine wr_nil ?_
    refine w_retR (R1 := [⟨4, 1, (some ⟨g_1, 0, none⟩), s.length, s.length, bools m, false⟩]) (fun _ h => h.sel [0] (by decide) rfl) ?_
    refine ⟨_, rfl, ?_⟩
    obtain rfl : m = smL s := smL_of hl fun j h0 h1 => hM j h0 (by omega) h1
    exact ⟨_, _, rfl, rfl⟩

theorem fst_yes {s : List Int} {i : Int} (h0 : 0 ≤ i) (hi : i < s.length) (h1 : 0 < i) (h2 : rdb (smL s) i = true) (h3 : ¬ rdb (smL s) (i - 1) = true) : fstB s i = true := by
  rw [rdb_smL h0 hi] at h2
  rw [rdb_smL (by omega) (by omega)] at h3
  exact fstB_iff.2 ⟨h1, h2, by simpa using h3⟩
theorem fst_no {s : List Int} {i : Int} (h0 : 0 ≤ i) (hi : i < s.length) (h : ¬ (0 < i ∧ rdb (smL s) i = true ∧ ¬ rdb (smL s) (i - 1) = true)) : ¬ fstB s i = true := fun e => by
  obtain ⟨h1, h2, h3⟩ := fstB_iff.1 e
  exact h ⟨h1, by rw [rdb_smL h0 hi]; exact h2, by rw [rdb_smL (by omega) (by omega), h3]; simp⟩
theorem fstP_one (s : List Int) : fstP s 1 = [] := by
  show fstP s (0 + 1) = []
  rw [fstP_step (by omega), if_neg (fun h => by have := (fstB_iff.1 h).1; omega)]
  rfl
theorem fstP_end {s : List Int} {i : Int} (h : i = s.length ∨ i = 1 ∧ s.length = 0) : fstP s i = fstL s := by
  rcases h with rfl | ⟨rfl, h⟩
  · exact fstP_all
  · rw [fstP_one, ← fstP_all, h]; rfl
/-! whorl/kinds.First -/
set_option maxRecDepth 100000 in
theorem first_ct {w : World} {A_s : Option Addr} {n_s c_s : Nat} {s : List Int} (h_s : Rd w A_s n_s c_s 1 (ints .i64 s)) (hN : s.length ≤ 1000000) :
    Ct Try.prog 48 #[.slice A_s n_s c_s] w.heap.size w [] (fun v R' => ∃ A c, v = .slice A (fstL s).length c ∧ R' = [⟨3, 1, A, (fstL s).length, c, ints .i64 (fstL s), false⟩]) := by
  obtain rfl := h_s.lenI
  refine fn1 Try.func48 rfl rfl rfl ?_
  have m_s := h_s.max
  refine w_seq ?_
  refine w_reg ?_
  refine wr_y rfl (y_assign rfl) ?_
  refine wr_nil ?_
  refine w_seq ?_
  refine w_reg ?_
  refine wr_sub (R1 := [⟨3, 1, none, 0, 0, ints .i64 ([]), false⟩]) (Sub.refl _) (fun _ h => h.nil 3 1) ?_
  refine wr_y rfl (y_assign rfl) ?_
  refine wr_nil ?_
  refine w_seq ?_
  refine w_reg ?_
  refine wr_y rfl (y_move rfl) ?_
  refine wr_a rfl (a_callF en49 rfl (Ct.fresh (fun w hw => small_ct ((h_s.c _) w hw) (by first | assumption | omega | decide)))) ?_
  rintro _ _ ⟨_, rfl, A_1, c_2, rfl, rfl⟩
  refine wr_y rfl (y_assign rfl) ?_
  refine wr_nil ?_
  refine w_seq ?_
  refine w_seq ?_
  refine w_reg ?_
  refine wr_y rfl (y_move rfl) ?_
  refine wr_y rfl (y_len Try.underlying22 rfl) ?_
  refine wr_y rfl (y_move rfl) ?_
  refine wr_nil ?_
  refine w_block ?_
  refine w_loop5 (fun (A1 : Option Addr) (n1 : Nat) (c1 : Nat) (acc : List Int) (i : Int) => [(3, .slice A1 n1 c1), (4, .slice A_1 s.length c_2), (9, .int .i64 ((s.length : Nat) : Int)), (10, .int .i64 i)]) (fun (A1 : Option Addr) (n1 : Nat) (c1 : Nat) (acc : List Int) (i : Int) => [⟨4, 1, A_1, s.length, c_2, bools (smL s), false⟩, ⟨3, 1, A1, n1, c1, ints .i64 acc, false⟩]) (fun (A1 : Option Addr) (n1 : Nat) (c1 : Nat) (acc : List Int) (i : Int) => (n1 = acc.length) ∧ (0 ≤ i) ∧ (i ≤ s.length) ∧ (acc = fstP s i)) (fun (A1 : Option Addr) (n1 : Nat) (c1 : Nat) (acc : List Int) (i : Int) => (s.length - i).toNat) ?_ ?_
  ·
    exact ⟨none, 0, 0, [], 0, ⟨(rfl), (by omega), (by omega), (rfl)⟩, (Sub.cons rfl (Sub.cons rfl (Sub.cons rfl (Sub.cons rfl Sub.nil)))), fun _ h => h⟩
  intro A1 n1 c1 acc i ⟨hn1, hi0, hi1, hacc⟩
  refine w_seq ?_
  refine w_reg ?_
  refine wr_y rfl (y_lt rfl rfl) ?_
  refine wr_nil ?_
  refine w_seq ?_
  refine w_if rfl (fun hc1 => ?_) (fun hc1 => ?_)
  ·
    refine w_skip ?_
    refine w_seq ?_
    refine w_block ?_
    refine w_seq ?_
    refine w_reg ?_
    refine wr_y rfl (y_move rfl) ?_
    refine wr_y rfl (y_assign rfl) ?_
    refine wr_nil ?_
    refine w_seq ?_
    refine w_reg ?_
    refine wr_y rfl (y_move rfl) ?_
    refine wr_y rfl (y_gt rfl rfl) ?_
    refine wr_y rfl (y_move rfl) ?_
    refine wr_mid 5 [(3, .slice A1 n1 c1), (4, .slice A_1 s.length c_2), (5, .int .i64 i), (9, .int .i64 ((s.length : Nat) : Int)), (10, .int .i64 i), (20, .bool (decide ((0 < i) ∧ (rdb (smL s) i = true))))] [⟨4, 1, A_1, s.length, c_2, bools (smL s), false⟩, ⟨3, 1, A1, n1, c1, ints .i64 acc, false⟩] ?_ ?_
    ·
      refine wr_case 15 rfl (fun hc2 => ?_) (fun hc2 => ?_)
      ·
        refine wr_yes rfl rfl ?_
        refine wr_y rfl (y_move rfl) ?_
        refine wr_yes rfl rfl ?_
        refine wr_y rfl (y_move rfl) ?_
        refine wr_yes rfl rfl ?_
        refine wr_y rfl (y_index1 Try.underlying55 sz4 rfl rfl (rdr 0 rfl) (by omega) (by omega)) ?_
        refine wr_yes rfl rfl ?_
        refine wr_y rfl (y_ldB Try.underlying4 rfl rfl (rdr 0 rfl) (by omega) (by omega)) ?_
        refine wr_y rfl (y_pickT rfl rfl) ?_
        refine wr_nil ?_
        exact ⟨(Sub.cons rfl (Sub.cons rfl (Sub.cons rfl (Sub.cons rfl (Sub.cons rfl (Sub.to rfl (mb (by first | omega | exact ⟨fun h => ⟨(by assumption), h⟩, fun h => h.2⟩ | simp [*])) Sub.nil)))))), fun _ h => h⟩
      ·
        refine wr_no rfl rfl rfl rfl ?_
        refine wr_no rfl rfl rfl rfl ?_
        refine wr_no rfl rfl rfl rfl ?_
        refine wr_no rfl rfl rfl rfl ?_
        refine wr_y rfl (y_pickF rfl rfl) ?_
        refine wr_nil ?_
        exact ⟨(Sub.cons rfl (Sub.cons rfl (Sub.cons rfl (Sub.cons rfl (Sub.cons rfl (Sub.to rfl (mb_f (by first | omega | exact ⟨fun h => ⟨(by assumption), h⟩, fun h => h.2⟩ | simp [*])) Sub.nil)))))), fun _ h => h⟩
    refine wr_y rfl (y_move rfl) ?_
    refine wr_mid 7 [(3, .slice A1 n1 c1), (4, .slice A_1 s.length c_2), (5, .int .i64 i), (9, .int .i64 ((s.length : Nat) : Int)), (10, .int .i64 i), (28, .bool (decide (((0 < i) ∧ (rdb (smL s) i = true)) ∧ (¬ (rdb (smL s) (i - 1) = true)))))] [⟨4, 1, A_1, s.length, c_2, bools (smL s), false⟩, ⟨3, 1, A1, n1, c1, ints .i64 acc, false⟩] ?_ ?_
    ·
      refine wr_case 21 rfl (fun hc3 => ?_) (fun hc3 => ?_)
      ·
        refine wr_yes rfl rfl ?_
        refine wr_y rfl (y_move rfl) ?_
        refine wr_yes rfl rfl ?_
        refine wr_y rfl (y_move rfl) ?_
        refine wr_yes rfl rfl ?_
        refine wr_y rfl (y_subI rfl rfl (by omega)) ?_
        refine wr_yes rfl rfl ?_
        refine wr_y rfl (y_index1 Try.underlying55 sz4 rfl rfl (rdr 0 rfl) (by omega) (by omega)) ?_
        refine wr_yes rfl rfl ?_
        refine wr_y rfl (y_ldB Try.underlying4 rfl rfl (rdr 0 rfl) (by omega) (by omega)) ?_
        refine wr_yes rfl rfl ?_
        refine wr_y rfl (y_notD rfl) ?_
        refine wr_y rfl (y_pickT rfl rfl) ?_
        refine wr_nil ?_
        exact ⟨(Sub.cons rfl (Sub.cons rfl (Sub.cons rfl (Sub.cons rfl (Sub.cons rfl (Sub.to rfl (mb (by first | omega | exact ⟨fun h => ⟨(by assumption), h⟩, fun h => h.2⟩ | simp [*])) Sub.nil)))))), fun _ h => h⟩
      ·
        refine wr_no rfl rfl rfl rfl ?_
        refine wr_no rfl rfl rfl rfl ?_
        refine wr_no rfl rfl rfl rfl ?_
        refine wr_no rfl rfl rfl rfl ?_
        refine wr_no rfl rfl rfl rfl ?_
        refine wr_no rfl rfl rfl rfl ?_
        refine wr_y rfl (y_pickF rfl rfl) ?_
        refine wr_nil ?_
        exact ⟨(Sub.cons rfl (Sub.cons rfl (Sub.cons rfl (Sub.cons rfl (Sub.cons rfl (Sub.to rfl (mb_f (by first | omega | exact ⟨fun h => ⟨(by assumption), h⟩, fun h => h.2⟩ | simp [*])) Sub.nil)))))), fun _ h => h⟩
    refine wr_nil ?_
    refine w_if rfl (fun hc4 => ?_) (fun hc4 => ?_)
    ·
      refine w_reg ?_
      refine wr_y rfl (y_move rfl) ?_
      refine wr_y rfl (y_move rfl) ?_
      refine wr_a rfl (a_litI .i64 [i] Try.underlying22 zs3 rfl rfl rfl) ?_
      rintro _ _ ⟨g_5, rfl, rfl⟩
      refine wr_a rfl (a_appendI 2 rfl Try.underlying22 zb3 rfl rfl rfl (rdr 0 rfl) (by have := congrArg List.length hacc; have := fstP_len (s := s) i; omega)) ?_
      rintro _ _ ⟨A_6, c_7, rfl, rfl⟩
      refine wr_rows (R1 := [⟨3, 1, (some ⟨g_5, 0, none⟩), 1, 1, ints .i64 ([i]), false⟩, ⟨4, 1, A_1, s.length, c_2, bools (smL s), false⟩, ⟨3, 1, A_6, (n1 + 1), c_7, ints .i64 (acc ++ ([i])), false⟩]) rfl ?_
      refine wr_as (v := .slice A_6 (n1 + 1) c_7) rfl ?_
      refine wr_y rfl (y_assign rfl) ?_
      refine wr_nil ?_
      refine w_reg ?_
      refine wr_y rfl (y_addI rfl rfl (by omega)) ?_
      refine wr_y rfl (y_move rfl) ?_
      refine wr_nil ?_
      exact ⟨A_6, n1 + 1, c_7, acc ++ ([i]), i + 1, ⟨(by rw [List.length_append, hn1]; try rfl), (by omega), (by omega), (by rw [fstP_step (by omega), if_pos (fst_yes (by omega) (by omega) hc4.1.1 hc4.1.2 hc4.2), hacc])⟩, (by omega), (Sub.cons rfl (Sub.cons rfl (Sub.cons rfl (Sub.cons rfl Sub.nil)))), fun _ h => h.sel [1, 2] (by decide) rfl⟩
    ·
      refine w_skip ?_
      refine w_reg ?_
      refine wr_y rfl (y_addI rfl rfl (by omega)) ?_
      refine wr_y rfl (y_move rfl) ?_
      refine wr_nil ?_
      exact ⟨A1, n1, c1, acc, i + 1, ⟨(hn1), (by omega), (by omega), (by rw [fstP_step (by omega), if_neg (fst_no (by omega) (by omega) (fun h => hc4 ⟨⟨h.1, h.2.1⟩, h.2.2⟩)), List.append_nil, hacc])⟩, (by omega), (Sub.cons rfl (Sub.cons rfl (Sub.cons rfl (Sub.cons rfl Sub.nil)))), fun _ h => h⟩
  ·
    refine w_exit ?_
    refine w_seq ?_
    refine w_reg ?_
    refine wr_y rfl (y_move rfl) ?_
    refine wr_y rfl (y_assign rfl) ?_
    refine wr_nil ?_
    refine w_retR (R1 := [⟨3, 1, A1, n1, c1, ints .i64 acc, false⟩]) (fun _ h => h.sel [1] (by decide) rfl) ?_
    refine ⟨_, rfl, ?_⟩
    rw [fstP_end (by omega)] at hacc
    subst hacc
    obtain rfl := hn1
    exact ⟨_, _, rfl, rfl⟩

/-! whorl/whorlref11.Small -/
set_option maxRecDepth 100000 in
theorem small11_ct {w : World} {A_s : Option Addr} {n_s c_s : Nat} {s : List Int} (h_s : Rd w A_s n_s c_s 1 (ints .i64 s)) (hN : s.length ≤ 1000000) :
    Ct Try.prog 57 #[.slice A_s n_s c_s] w.heap.size w [] (fun v R' => ∃ A c, v = .slice A s.length c ∧ R' = [⟨4, 1, A, s.length, c, bools (smL s), false⟩]) := by
  obtain rfl := h_s.lenI
  refine fn1 Try.func57 rfl rfl rfl ?_
  have m_s := h_s.max
  refine w_seq ?_
  refine w_reg ?_
  refine wr_y rfl (y_assign rfl) ?_
  refine wr_nil ?_
  refine w_seq ?_
  refine w_reg ?_
  refine wr_sub (R1 := [⟨4, 1, none, 0, 0, bools ([]), false⟩]) (Sub.refl _) (fun _ h => h.nil 4 1) ?_
  refine wr_y rfl (y_assign rfl) ?_
  refine wr_nil ?_
  refine w_seq ?_
  refine w_seq ?_
  refine w_reg ?_
  refine wr_y rfl (y_assign rfl) ?_
  refine wr_nil ?_
  refine w_block ?_
  refine w_loop5 (fun (i : Int) (A1 : Option Addr) (n1 : Nat) (c1 : Nat) (m : List Bool) => [(0, .slice A_s s.length c_s), (3, .slice A1 n1 c1), (4, .int .i64 i)]) (fun (i : Int) (A1 : Option Addr) (n1 : Nat) (c1 : Nat) (m : List Bool) => [⟨4, 1, A1, n1, c1, bools m, false⟩]) (fun (i : Int) (A1 : Option Addr) (n1 : Nat) (c1 : Nat) (m : List Bool) => (0 ≤ i) ∧ (i ≤ s.length) ∧ (n1 = i.toNat) ∧ (m = (smL s).take i.toNat)) (fun (i : Int) (A1 : Option Addr) (n1 : Nat) (c1 : Nat) (m : List Bool) => (s.length - i).toNat) ?_ ?_
  ·
    exact ⟨0, none, 0, 0, [], ⟨(by omega), (by omega), (rfl), (rfl)⟩, (Sub.cons rfl (Sub.cons rfl (Sub.cons rfl Sub.nil))), fun _ h => h⟩
  intro i A1 n1 c1 m ⟨hi0, hi1, hn1, hm⟩
  refine w_seq ?_
  refine w_seq ?_
  refine w_reg ?_
  refine wr_y rfl (y_move rfl) ?_
  refine wr_y rfl (y_move rfl) ?_
  refine wr_y rfl (y_len Try.underlying22 rfl) ?_
  refine wr_y rfl (y_lt rfl rfl) ?_
  refine wr_nil ?_
  refine w_if rfl (fun hc1 => ?_) (fun hc1 => ?_)
  ·
    refine w_skip ?_
    refine w_seq ?_
    refine w_block ?_
    refine w_regd mixed ?_
    refine wd_y 0 rfl (by kernel_rfl) rfl (y_move rfl) ?_
    refine wd_y 1 rfl (by kernel_rfl) rfl (y_move rfl) ?_
    refine wd_y 2 rfl (by kernel_rfl) rfl (y_move rfl) ?_
    refine wd_y 3 rfl (by kernel_rfl) rfl (y_sliceFrom Try.underlying22 sz3 rfl rfl (by omega) (by omega)) ?_
    refine wd_y 4 rfl (by kernel_rfl) rfl (y_move rfl) ?_
    refine wd_y 5 rfl (by kernel_rfl) rfl (y_move rfl) ?_
    refine wd_y 6 rfl (by kernel_rfl) rfl (y_addI rfl rfl (by omega)) ?_
    refine wd_y 7 rfl (by kernel_rfl) rfl (y_sliceFrom Try.underlying22 sz3 rfl rfl (by omega) (by omega)) ?_
    refine wd_a 8 rfl (by kernel_rfl) rfl (a_callF en43 rfl (Ct.quiet (fun w hw => words11_ct ((RdC.fromI (h_s.c _) (by omega)) w hw) ((RdC.fromI (h_s.c _) (by omega)) w hw)))) ?_
    rintro _ _ ⟨rfl, rfl⟩
    refine ⟨.inr fun _ h => h, ?_⟩
    refine wd_y 9 rfl (by kernel_rfl) rfl (y_lt rfl rfl) ?_
    refine wd_a 10 rfl (by kernel_rfl) rfl (a_litB [(decide ((cmpL ((s).drop (i).toNat) ((s).drop (i + 1).toNat)) < 0))] Try.underlying55 zs4 rfl rfl rfl) ?_
    rintro _ _ ⟨g_2, rfl, rfl⟩
    refine ⟨.inr fun _ h => h.right (R' := [_]), ?_⟩
    refine wd_a 11 rfl (by kernel_rfl) rfl (a_appendB 1 rfl Try.underlying55 zb4 rfl rfl rfl (rdr 0 rfl) (by omega)) ?_
    rintro _ _ ⟨A_3, c_4, rfl, rfl⟩
    refine ⟨.inl (by kernel_rfl), ?_⟩
    refine wd_rows (R1 := [⟨4, 1, (some ⟨g_2, 0, none⟩), 1, 1, bools ([(decide ((cmpL ((s).drop (i).toNat) ((s).drop (i + 1).toNat)) < 0))]), false⟩, ⟨4, 1, A_3, (n1 + 1), c_4, bools (m ++ ([(decide ((cmpL ((s).drop (i).toNat) ((s).drop (i + 1).toNat)) < 0))])), false⟩]) rfl ?_
    refine wd_as (v := .slice A_3 (n1 + 1) c_4) rfl ?_
    refine wd_y 12 rfl (by kernel_rfl) rfl (y_assign rfl) ?_
    refine wd_nil (by kernel_rfl) ?_
    refine w_reg ?_
    refine wr_y rfl (y_move rfl) ?_
    refine wr_y rfl (y_addI rfl rfl (by omega)) ?_
    refine wr_y rfl (y_assign rfl) ?_
    refine wr_nil ?_
    exact ⟨i + 1, A_3, n1 + 1, c_4, m ++ ([(decide ((cmpL ((s).drop (i).toNat) ((s).drop (i + 1).toNat)) < 0))]), ⟨(by omega), (by omega), (by omega), (smL_take hi0 (by omega) hm)⟩, (by omega), (Sub.cons rfl (Sub.cons rfl (Sub.cons rfl Sub.nil))), fun _ h => h.sel [1] (by decide) rfl⟩
  ·
    refine w_exit ?_
    refine w_seq ?_
    refine w_reg ?_
    refine wr_y rfl (y_move rfl) ?_
    refine wr_y rfl (y_assign rfl) ?_
    refine wr_nil ?_
    refine w_retR (R1 := [⟨4, 1, A1, n1, c1, bools m, false⟩]) (fun _ h => h.sel [0] (by decide) rfl) ?_
    refine ⟨_, rfl, ?_⟩
    rw [List.take_of_length_le (by rw [smL_len]; omega)] at hm
    subst hm
    obtain rfl : n1 = s.length := by omega
    exact ⟨_, _, rfl, rfl⟩

/-! whorl/whorlref11.First -/
set_option maxRecDepth 100000 in
theorem first11_ct {w : World} {A_s : Option Addr} {n_s c_s : Nat} {s : List Int} (h_s : Rd w A_s n_s c_s 1 (ints .i64 s)) (hN : s.length ≤ 1000000) :
    Ct Try.prog 32 #[.slice A_s n_s c_s] w.heap.size w [] (fun v R' => ∃ A c, v = .slice A (fstL s).length c ∧ R' = [⟨3, 1, A, (fstL s).length, c, ints .i64 (fstL s), false⟩]) := by
  obtain rfl := h_s.lenI
  refine fn1 Try.func32 rfl rfl rfl ?_
  have m_s := h_s.max
  refine w_seq ?_
  refine w_reg ?_
  refine wr_y rfl (y_assign rfl) ?_
  refine wr_nil ?_
  refine w_seq ?_
  refine w_reg ?_
  refine wr_y rfl (y_move rfl) ?_
  refine wr_a rfl (a_callF en57 rfl (Ct.fresh (fun w hw => small11_ct ((h_s.c _) w hw) (by first | assumption | omega | decide)))) ?_
  rintro _ _ ⟨_, rfl, A_1, c_2, rfl, rfl⟩
  refine wr_y rfl (y_assign rfl) ?_
  refine wr_nil ?_
  refine w_seq ?_
  refine w_reg ?_
  refine wr_sub (R1 := [⟨3, 1, none, 0, 0, ints .i64 ([]), false⟩, ⟨4, 1, A_1, s.length, c_2, bools (smL s), false⟩]) (Sub.refl _) (fun _ h => h.nil 3 1) ?_
  refine wr_y rfl (y_assign rfl) ?_
  refine wr_nil ?_
  refine w_seq ?_
  refine w_seq ?_
  refine w_reg ?_
  refine wr_y rfl (y_assign rfl) ?_
  refine wr_nil ?_
  refine w_block ?_
  refine w_loop5 (fun (A1 : Option Addr) (n1 : Nat) (c1 : Nat) (acc : List Int) (i : Int) => [(0, .slice A_s s.length c_s), (3, .slice A_1 s.length c_2), (4, .slice A1 n1 c1), (5, .int .i64 i)]) (fun (A1 : Option Addr) (n1 : Nat) (c1 : Nat) (acc : List Int) (i : Int) => [⟨3, 1, A1, n1, c1, ints .i64 acc, false⟩, ⟨4, 1, A_1, s.length, c_2, bools (smL s), false⟩]) (fun (A1 : Option Addr) (n1 : Nat) (c1 : Nat) (acc : List Int) (i : Int) => (n1 = acc.length) ∧ (1 ≤ i) ∧ (i ≤ s.length ∨ i = 1) ∧ (acc = fstP s i)) (fun (A1 : Option Addr) (n1 : Nat) (c1 : Nat) (acc : List Int) (i : Int) => (s.length - i).toNat) ?_ ?_
  ·
    exact ⟨none, 0, 0, [], 1, ⟨(rfl), (by omega), (by omega), ((fstP_one s).symm)⟩, (Sub.cons rfl (Sub.cons rfl (Sub.cons rfl (Sub.cons rfl Sub.nil)))), fun _ h => h⟩
  intro A1 n1 c1 acc i ⟨hn1, hi0, hi1, hacc⟩
  refine w_seq ?_
  refine w_seq ?_
  refine w_reg ?_
  refine wr_y rfl (y_move rfl) ?_
  refine wr_y rfl (y_move rfl) ?_
  refine wr_y rfl (y_len Try.underlying22 rfl) ?_
  refine wr_y rfl (y_lt rfl rfl) ?_
  refine wr_nil ?_
  refine w_if rfl (fun hc1 => ?_) (fun hc1 => ?_)
  ·
    refine w_skip ?_
    refine w_seq ?_
    refine w_block ?_
    refine w_seq ?_
    refine w_reg ?_
    refine wr_y rfl (y_move rfl) ?_
    refine wr_y rfl (y_move rfl) ?_
    refine wr_y rfl (y_index1 Try.underlying55 sz4 rfl rfl (rdr 1 rfl) (by omega) (by omega)) ?_
    refine wr_y rfl (y_ldB Try.underlying4 rfl rfl (rdr 1 rfl) (by omega) (by omega)) ?_
    refine wr_y rfl (y_move rfl) ?_
    refine wr_mid 7 [(0, .slice A_s s.length c_s), (3, .slice A_1 s.length c_2), (4, .slice A1 n1 c1), (5, .int .i64 i), (25, .bool (decide ((rdb (smL s) i = true) ∧ (¬ (rdb (smL s) (i - 1) = true)))))] [⟨3, 1, A1, n1, c1, ints .i64 acc, false⟩, ⟨4, 1, A_1, s.length, c_2, bools (smL s), false⟩] ?_ ?_
    ·
      refine wr_case 18 rfl (fun hc2 => ?_) (fun hc2 => ?_)
      ·
        refine wr_yes rfl rfl ?_
        refine wr_y rfl (y_move rfl) ?_
        refine wr_yes rfl rfl ?_
        refine wr_y rfl (y_move rfl) ?_
        refine wr_yes rfl rfl ?_
        refine wr_y rfl (y_subI rfl rfl (by omega)) ?_
        refine wr_yes rfl rfl ?_
        refine wr_y rfl (y_index1 Try.underlying55 sz4 rfl rfl (rdr 1 rfl) (by omega) (by omega)) ?_
        refine wr_yes rfl rfl ?_
        refine wr_y rfl (y_ldB Try.underlying4 rfl rfl (rdr 1 rfl) (by omega) (by omega)) ?_
        refine wr_yes rfl rfl ?_
        refine wr_y rfl (y_notD rfl) ?_
        refine wr_y rfl (y_pickT rfl rfl) ?_
        refine wr_nil ?_
        exact ⟨(Sub.cons rfl (Sub.cons rfl (Sub.cons rfl (Sub.cons rfl (Sub.to rfl (mb (by first | omega | exact ⟨fun h => ⟨(by assumption), h⟩, fun h => h.2⟩ | simp [*])) Sub.nil))))), fun _ h => h⟩
      ·
        refine wr_no rfl rfl rfl rfl ?_
        refine wr_no rfl rfl rfl rfl ?_
        refine wr_no rfl rfl rfl rfl ?_
        refine wr_no rfl rfl rfl rfl ?_
        refine wr_no rfl rfl rfl rfl ?_
        refine wr_no rfl rfl rfl rfl ?_
        refine wr_y rfl (y_pickF rfl rfl) ?_
        refine wr_nil ?_
        exact ⟨(Sub.cons rfl (Sub.cons rfl (Sub.cons rfl (Sub.cons rfl (Sub.to rfl (mb_f (by first | omega | exact ⟨fun h => ⟨(by assumption), h⟩, fun h => h.2⟩ | simp [*])) Sub.nil))))), fun _ h => h⟩
    refine wr_nil ?_
    refine w_if rfl (fun hc3 => ?_) (fun hc3 => ?_)
    ·
      refine w_reg ?_
      refine wr_y rfl (y_move rfl) ?_
      refine wr_y rfl (y_move rfl) ?_
      refine wr_a rfl (a_litI .i64 [i] Try.underlying22 zs3 rfl rfl rfl) ?_
      rintro _ _ ⟨g_5, rfl, rfl⟩
      refine wr_a rfl (a_appendI 1 rfl Try.underlying22 zb3 rfl rfl rfl (rdr 0 rfl) (by have := congrArg List.length hacc; have := fstP_len (s := s) i; omega)) ?_
      rintro _ _ ⟨A_6, c_7, rfl, rfl⟩
      refine wr_rows (R1 := [⟨3, 1, (some ⟨g_5, 0, none⟩), 1, 1, ints .i64 ([i]), false⟩, ⟨3, 1, A_6, (n1 + 1), c_7, ints .i64 (acc ++ ([i])), false⟩, ⟨4, 1, A_1, s.length, c_2, bools (smL s), false⟩]) rfl ?_
      refine wr_as (v := .slice A_6 (n1 + 1) c_7) rfl ?_
      refine wr_y rfl (y_assign rfl) ?_
      refine wr_nil ?_
      refine w_reg ?_
      refine wr_y rfl (y_move rfl) ?_
      refine wr_y rfl (y_addI rfl rfl (by omega)) ?_
      refine wr_y rfl (y_assign rfl) ?_
      refine wr_nil ?_
      exact ⟨A_6, n1 + 1, c_7, acc ++ ([i]), i + 1, ⟨(by rw [List.length_append, hn1]; try rfl), (by omega), (by omega), (by rw [fstP_step (by omega), if_pos (fst_yes (by omega) (by omega) (by omega) hc3.1 hc3.2), hacc])⟩, (by omega), (Sub.cons rfl (Sub.cons rfl (Sub.cons rfl (Sub.cons rfl Sub.nil)))), fun _ h => h.sel [1, 2] (by decide) rfl⟩
    ·
      refine w_skip ?_
      refine w_reg ?_
      refine wr_y rfl (y_move rfl) ?_
      refine wr_y rfl (y_addI rfl rfl (by omega)) ?_
      refine wr_y rfl (y_assign rfl) ?_
      refine wr_nil ?_
      exact ⟨A1, n1, c1, acc, i + 1, ⟨(hn1), (by omega), (by omega), (by rw [fstP_step (by omega), if_neg (fst_no (by omega) (by omega) (fun h => hc3 ⟨h.2.1, h.2.2⟩)), List.append_nil, hacc])⟩, (by omega), (Sub.cons rfl (Sub.cons rfl (Sub.cons rfl (Sub.cons rfl Sub.nil)))), fun _ h => h⟩
  ·
    refine w_exit ?_
    refine w_seq ?_
    refine w_reg ?_
    refine wr_y rfl (y_move rfl) ?_
    refine wr_y rfl (y_assign rfl) ?_
    refine wr_nil ?_
    refine w_retR (R1 := [⟨3, 1, A1, n1, c1, ints .i64 acc, false⟩]) (fun _ h => h.sel [0] (by decide) rfl) ?_
    refine ⟨_, rfl, ?_⟩
    rw [fstP_end (by omega)] at hacc
    subst hacc
    obtain rfl := hn1
    exact ⟨_, _, rfl, rfl⟩

end Go.Proofs.Ytlagmdccneompaa
