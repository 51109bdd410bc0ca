/- Walks of Go functions, printed by a program of our own. -/
import Derived.Test.YtdfcnalkdlifiaaF1
import Derived.Test.YtdfcnalkdlifiaaQ13
import Derived.Test.YtdfcnalkdlifiaaE16
namespace Go.Proofs.Ytdfcnalkdlifiaa
open Go Go.Eng Go.Pure
set_option linter.unusedVariables false
/-! whorl/whorlref4.Endings -/
set_option maxRecDepth 100000 in
theorem endings4_ct {w : World} {A_u : Option Addr} {n_u c_u : Nat} {u : List Int} {i : Int} {j : Int} (h_u : Rd w A_u n_u c_u 1 (ints .u8 u)) (hij : 0 ≤ i ∧ i ≤ u.length ∧ 0 ≤ j ∧ j ≤ u.length) :
    Ct Try.prog 39 #[.slice A_u n_u c_u, .int .i64 i, .int .i64 j] w.heap.size w [] (fun v R' => v = .int .i64 (cmpL (u.drop i.toNat) (u.drop j.toNat))) := by
  obtain rfl := h_u.lenI
  refine fn1 Try.func39 rfl rfl rfl ?_
  have m_u := h_u.max
  refine w_seq ?_
  refine w_reg ?_
  refine wr_y rfl (y_assign rfl) ?_
  refine wr_nil ?_
  refine w_seq ?_
  refine w_seq ?_
  refine w_reg ?_
  refine wr_y rfl (y_move rfl) ?_
  refine wr_y rfl (y_lt rfl rfl) ?_
  refine wr_y rfl (y_move rfl) ?_
  refine wr_mid 5 [(0, .slice A_u u.length c_u), (1, .int .i64 i), (2, .int .i64 j), (14, .bool (decide ((i < 0) ∨ (((u.length : Nat) : Int) < i))))] [] ?_ ?_
  ·
    refine wr_case 9 rfl (fun hc1 => ?_) (fun hc1 => ?_)
    ·
      refine wr_no rfl rfl rfl rfl ?_
      refine wr_no rfl rfl rfl rfl ?_
      refine wr_no rfl rfl rfl rfl ?_
      refine wr_no rfl rfl rfl rfl ?_
      refine wr_y rfl (y_pickT rfl rfl) ?_
      refine wr_nil ?_
      exact ⟨(Sub.cons rfl (Sub.cons rfl (Sub.cons rfl (Sub.to rfl (mb_t (by first | omega | exact ⟨fun h => ⟨(by assumption), h⟩, fun h => h.2⟩ | simp [*])) Sub.nil)))), fun _ h => h⟩
    ·
      refine wr_yes rfl rfl ?_
      refine wr_y rfl (y_move rfl) ?_
      refine wr_yes rfl rfl ?_
      refine wr_y rfl (y_move rfl) ?_
      refine wr_yes rfl rfl ?_
      refine wr_y rfl (y_len Try.underlying22 rfl) ?_
      refine wr_yes rfl rfl ?_
      refine wr_y rfl (y_gt rfl rfl) ?_
      refine wr_y rfl (y_pickF rfl rfl) ?_
      refine wr_nil ?_
      exact ⟨(Sub.cons rfl (Sub.cons rfl (Sub.cons rfl (Sub.to rfl (mb (by first | omega | exact ⟨fun h => ⟨(by assumption), h⟩, fun h => h.2⟩ | simp [*])) Sub.nil)))), fun _ h => h⟩
  refine wr_setF 14 rfl (by omega) ?_
  refine wr_y rfl (y_move rfl) ?_
  refine wr_yes rfl rfl ?_
  refine wr_y rfl (y_move rfl) ?_
  refine wr_yes rfl rfl ?_
  refine wr_y rfl (y_lt rfl rfl) ?_
  refine wr_y rfl (y_pickF rfl rfl) ?_
  refine wr_y rfl (y_move rfl) ?_
  refine wr_mid 5 [(0, .slice A_u u.length c_u), (1, .int .i64 i), (2, .int .i64 j), (24, .bool (decide ((j < 0) ∨ (((u.length : Nat) : Int) < j))))] [] ?_ ?_
  ·
    refine wr_case 19 rfl (fun hc2 => ?_) (fun hc2 => ?_)
    ·
      refine wr_no rfl rfl rfl rfl ?_
      refine wr_no rfl rfl rfl rfl ?_
      refine wr_no rfl rfl rfl rfl ?_
      refine wr_no rfl rfl rfl rfl ?_
      refine wr_y rfl (y_pickT rfl rfl) ?_
      refine wr_nil ?_
      exact ⟨(Sub.cons rfl (Sub.cons rfl (Sub.cons rfl (Sub.to rfl (mb_t (by first | omega | exact ⟨fun h => ⟨(by assumption), h⟩, fun h => h.2⟩ | simp [*])) Sub.nil)))), fun _ h => h⟩
    ·
      refine wr_yes rfl rfl ?_
      refine wr_y rfl (y_move rfl) ?_
      refine wr_yes rfl rfl ?_
      refine wr_y rfl (y_move rfl) ?_
      refine wr_yes rfl rfl ?_
      refine wr_y rfl (y_len Try.underlying22 rfl) ?_
      refine wr_yes rfl rfl ?_
      refine wr_y rfl (y_gt rfl rfl) ?_
      refine wr_y rfl (y_pickF rfl rfl) ?_
      refine wr_nil ?_
      exact ⟨(Sub.cons rfl (Sub.cons rfl (Sub.cons rfl (Sub.to rfl (mb (by first | omega | exact ⟨fun h => ⟨(by assumption), h⟩, fun h => h.2⟩ | simp [*])) Sub.nil)))), fun _ h => h⟩
  refine wr_setF 24 rfl (by omega) ?_
  refine wr_nil ?_
  refine w_false rfl ?_
  refine w_skip ?_
  refine w_seq ?_
  refine w_regd mixed ?_
  refine wd_y 0 rfl (by kernel_rfl) rfl (y_move rfl) ?_
  refine wd_y 1 rfl (by kernel_rfl) rfl (y_move rfl) ?_
  refine wd_y 2 rfl (by kernel_rfl) rfl (y_sliceFrom Try.underlying22 sz5 rfl rfl (by omega) (by omega)) ?_
  refine wd_y 3 rfl (by kernel_rfl) rfl (y_move rfl) ?_
  refine wd_y 4 rfl (by kernel_rfl) rfl (y_move rfl) ?_
  refine wd_y 5 rfl (by kernel_rfl) rfl (y_sliceFrom Try.underlying22 sz5 rfl rfl (by omega) (by omega)) ?_
  refine wd_a 6 rfl (by kernel_rfl) rfl (a_callF en61 rfl (Ct.quiet (fun w hw => words4_ct ((RdC.fromI (h_u.c _) (by omega)) w hw) ((RdC.fromI (h_u.c _) (by omega)) w hw)))) ?_
  rintro _ _ ⟨rfl, rfl⟩
  refine ⟨.inr fun _ h => h, ?_⟩
  refine wd_y 7 rfl (by kernel_rfl) rfl (y_assign rfl) ?_
  refine wd_nil (by kernel_rfl) ?_
  refine w_ret ?_
  refine ⟨_, rfl, ?_⟩
  rfl

/-! whorl/whorlref7.Is -/
set_option maxRecDepth 100000 in
theorem is7_ct {w : World} {A_u : Option Addr} {n_u c_u : Nat} {u : List Int} (h_u : Rd w A_u n_u c_u 1 (ints .u8 u)) :
    Ct Try.prog 17 #[.slice A_u n_u c_u] w.heap.size w [] (fun v R' => v = .bool (decide (LynB u = true))) := by
  obtain rfl := h_u.lenI
  refine fn1 Try.func17 rfl rfl rfl ?_
  have m_u := h_u.max
  refine w_seq ?_
  refine w_reg ?_
  refine wr_y rfl (y_assign rfl) ?_
  refine wr_nil ?_
  refine w_seq ?_
  refine w_seq ?_
  refine w_reg ?_
  refine wr_y rfl (y_assign rfl) ?_
  refine wr_nil ?_
  refine w_block ?_
  refine w_loop1 (fun (i : Int) => [(0, .slice A_u u.length c_u), (3, .int .i64 i)]) (fun (i : Int) => []) (fun (i : Int) => (1 ≤ i) ∧ (i ≤ u.length + 1) ∧ (∀ r : Nat, 0 < r → (r : Int) < i → r < u.length → cmpL u (u.drop r) < 0)) (fun (i : Int) => (u.length + 1 - i).toNat) ?_ ?_
  ·
    exact ⟨1, ⟨(by omega), (by omega), (fun r h1 h2 => by omega)⟩, (Sub.cons rfl (Sub.cons rfl Sub.nil)), fun _ h => h⟩
  intro i ⟨hi1, hi2, hall⟩
  refine w_seq ?_
  refine w_seq ?_
  refine w_reg ?_
  refine wr_y rfl (y_move rfl) ?_
  refine wr_y rfl (y_move rfl) ?_
  refine wr_y rfl (y_len Try.underlying22 rfl) ?_
  refine wr_y rfl (y_lt rfl rfl) ?_
  refine wr_nil ?_
  refine w_if rfl (fun hc1 => ?_) (fun hc1 => ?_)
  ·
    refine w_skip ?_
    refine w_seq ?_
    refine w_block ?_
    refine w_seq ?_
    refine w_reg ?_
    refine wr_y rfl (y_move rfl) ?_
    refine wr_y rfl (y_move rfl) ?_
    refine wr_a rfl (a_callF en39 rfl (Ct.quiet (fun w hw => endings4_ct ((h_u.c _) w hw) ⟨by omega, by omega, by omega, by omega⟩))) ?_
    rintro _ _ ⟨rfl, rfl⟩
    refine wr_y rfl (y_ge rfl rfl) ?_
    refine wr_nil ?_
    refine w_if rfl (fun hc2 => ?_) (fun hc2 => ?_)
    ·
      refine w_seq ?_
      refine w_reg ?_
      refine wr_y rfl (y_assign rfl) ?_
      refine wr_nil ?_
      refine w_ret ?_
      refine ⟨_, rfl, ?_⟩
      exact congrArg Value.bool (decide_eq_false fun h => by have := ((LynB_iff u).1 h).2 i.toNat (by omega) (by omega); exact absurd hc2 (Int.not_le.2 this)).symm
    ·
      refine w_skip ?_
      refine w_reg ?_
      refine wr_y rfl (y_move rfl) ?_
      refine wr_y rfl (y_addI rfl rfl (by omega)) ?_
      refine wr_y rfl (y_assign rfl) ?_
      refine wr_nil ?_
      exact ⟨i + 1, ⟨(by omega), (by omega), (fun r h1 h2 h3 => by
          rcases Int.lt_or_le (r : Int) i with a | a
          · exact hall r h1 a h3
          · have e : r = i.toNat := by omega
            rw [e]; exact Int.not_le.1 hc2)⟩, (by omega), (Sub.cons rfl (Sub.cons rfl Sub.nil)), fun _ h => h⟩
  ·
    refine w_exit ?_
    refine w_seq ?_
    refine w_reg ?_
    refine wr_y rfl (y_move rfl) ?_
    refine wr_y rfl (y_len Try.underlying22 rfl) ?_
    refine wr_y rfl (y_gt rfl rfl) ?_
    refine wr_y rfl (y_assign rfl) ?_
    refine wr_nil ?_
    refine w_ret ?_
    refine ⟨_, rfl, ?_⟩
    exact congrArg Value.bool (decide_eq_decide.2 ⟨fun h => (LynB_iff u).2 ⟨by omega, fun r h1 h2 => hall r h1 (by omega) h2⟩, fun h => by have := ((LynB_iff u).1 h).1; omega⟩)

/-! whorl/whorlref7.Factors -/
set_option maxRecDepth 100000 in
theorem factors7_ct {w : World} {A_u : Option Addr} {n_u c_u : Nat} {u : List Int} (h_u : Rd w A_u n_u c_u 1 (ints .u8 u)) (hN : u.length ≤ 1000000) :
    Ct Try.prog 37 #[.slice A_u n_u c_u] w.heap.size w [] (fun v R' => ∃ A c, v = .slice A (facL u).length c ∧ R' = [⟨3, 1, A, (facL u).length, c, ints .i64 (facL u), false⟩]) := by
  obtain rfl := h_u.lenI
  refine fn1 Try.func37 rfl rfl rfl ?_
  have m_u := h_u.max
  refine w_seq ?_
  refine w_reg ?_
  refine wr_y rfl (y_assign rfl) ?_
  refine wr_nil ?_
  refine w_seq ?_
  refine w_reg ?_
  refine wr_sub (R1 := [⟨3, 1, none, 0, 0, ints .i64 ([]), false⟩]) (Sub.refl _) (fun _ h => h.nil 3 1) ?_
  refine wr_y rfl (y_assign rfl) ?_
  refine wr_nil ?_
  refine w_seq ?_
  refine w_block ?_
  refine w_loop8 (fun (A0 : Option Addr) (n0 : Nat) (c0 : Nat) (t : List Int) (A1 : Option Addr) (n1 : Nat) (c1 : Nat) (acc : List Int) => [(0, .slice A0 n0 c0), (3, .slice A1 n1 c1)]) (fun (A0 : Option Addr) (n0 : Nat) (c0 : Nat) (t : List Int) (A1 : Option Addr) (n1 : Nat) (c1 : Nat) (acc : List Int) => [⟨3, 1, A1, n1, c1, ints .i64 acc, false⟩]) (fun (A0 : Option Addr) (n0 : Nat) (c0 : Nat) (t : List Int) (A1 : Option Addr) (n1 : Nat) (c1 : Nat) (acc : List Int) => (Rd w A0 n0 c0 1 (ints .u8 t)) ∧ (n1 = acc.length) ∧ (facL u = acc ++ facL t) ∧ (acc.length ≤ u.length)) (fun (A0 : Option Addr) (n0 : Nat) (c0 : Nat) (t : List Int) (A1 : Option Addr) (n1 : Nat) (c1 : Nat) (acc : List Int) => t.length) ?_ ?_
  ·
    exact ⟨A_u, u.length, c_u, u, none, 0, 0, [], ⟨(h_u), (rfl), (rfl), (by simp)⟩, (Sub.cons rfl (Sub.cons rfl Sub.nil)), fun _ h => h⟩
  intro A0 n0 c0 t A1 n1 c1 acc ⟨hrd, hn1, hfac, hlu⟩
  have hn0 := hrd.lenI
  have hm0 := hrd.max
  refine w_seq ?_
  refine w_seq ?_
  refine w_reg ?_
  refine wr_y rfl (y_move rfl) ?_
  refine wr_y rfl (y_len Try.underlying22 rfl) ?_
  refine wr_y rfl (y_gt rfl rfl) ?_
  refine wr_nil ?_
  refine w_if rfl (fun hc1 => ?_) (fun hc1 => ?_)
  ·
    refine w_skip ?_
    refine w_block ?_
    refine w_seq ?_
    refine w_reg ?_
    refine wr_y rfl (y_move rfl) ?_
    refine wr_y rfl (y_len Try.underlying22 rfl) ?_
    refine wr_y rfl (y_assign rfl) ?_
    refine wr_nil ?_
    refine w_seq ?_
    refine w_block ?_
    refine w_loop1 (fun (n : Int) => [(0, .slice A0 n0 c0), (3, .slice A1 n1 c1), (4, .int .i64 n)]) (fun (n : Int) => [⟨3, 1, A1, n1, c1, ints .i64 acc, false⟩]) (fun (n : Int) => (1 ≤ n) ∧ (n ≤ t.length) ∧ (lynLen t t.length = lynLen t n.toNat)) (fun (n : Int) => n.toNat) ?_ ?_
    ·
      exact ⟨((n0 : Nat) : Int), ⟨(by omega), (by omega), (by rw [show ((n0 : Nat) : Int).toNat = t.length by omega])⟩, (Sub.cons rfl (Sub.cons rfl (Sub.cons rfl Sub.nil))), fun _ h => h⟩
    intro n ⟨hq1, hq2, hq3⟩
    refine w_seq ?_
    refine w_seq ?_
    refine w_reg ?_
    refine wr_y rfl (y_move rfl) ?_
    refine wr_y rfl (y_move rfl) ?_
    refine wr_y rfl (y_sliceTo Try.underlying22 sz5 rfl rfl (hrd.c _) (by omega) (by omega)) ?_
    refine wr_a rfl (a_callF en17 rfl (Ct.quiet (fun w hw => is7_ct ((RdC.toI (hrd.c _) (by omega)) w hw)))) ?_
    rintro _ _ ⟨rfl, rfl⟩
    refine wr_y rfl (y_notD rfl) ?_
    refine wr_nil ?_
    refine w_if rfl (fun hc2 => ?_) (fun hc2 => ?_)
    ·
      have hsk := lynLen_skip hq1 hq2 hc2
      refine w_skip ?_
      refine w_block ?_
      refine w_reg ?_
      refine wr_y rfl (y_move rfl) ?_
      refine wr_y rfl (y_subI rfl rfl (by omega)) ?_
      refine wr_y rfl (y_assign rfl) ?_
      refine wr_nil ?_
      exact ⟨n - 1, ⟨(by omega), (by omega), (by rw [hq3]; exact hsk.2.symm)⟩, (by omega), (Sub.cons rfl (Sub.cons rfl (Sub.cons rfl Sub.nil))), fun _ h => h⟩
    ·
      have hhit := lynLen_hit hq1 (Decidable.not_not.1 hc2)
      have hfac2 : facL u = (acc ++ [n]) ++ facL (t.drop n.toNat) := by rw [hfac, facL_cons (by omega), hq3, hhit, show lynLen t n.toNat = n.toNat by omega, List.append_assoc]; rfl
      refine w_exit ?_
      refine w_seq ?_
      refine w_reg ?_
      refine wr_y rfl (y_move rfl) ?_
      refine wr_y rfl (y_move rfl) ?_
      refine wr_a rfl (a_litI .i64 [n] Try.underlying35 zs3 rfl rfl rfl) ?_
      rintro _ _ ⟨g_2, rfl, rfl⟩
      refine wr_a rfl (a_appendI 1 rfl Try.underlying35 zb3 rfl rfl rfl (rdr 0 rfl) (by omega)) ?_
      rintro _ _ ⟨A_3, c_4, rfl, rfl⟩
      refine wr_rows (R1 := [⟨3, 1, (some ⟨g_2, 0, none⟩), 1, 1, ints .i64 ([n]), false⟩, ⟨3, 1, A_3, (n1 + 1), c_4, ints .i64 (acc ++ ([n])), false⟩]) rfl ?_
      refine wr_as (v := .slice A_3 (n1 + 1) c_4) rfl ?_
      refine wr_y rfl (y_assign rfl) ?_
      refine wr_nil ?_
      refine w_reg ?_
      refine wr_y rfl (y_move rfl) ?_
      refine wr_y rfl (y_move rfl) ?_
      refine wr_y rfl (y_sliceFrom Try.underlying22 sz5 rfl rfl (by omega) (by omega)) ?_
      refine wr_y rfl (y_assign rfl) ?_
      refine wr_nil ?_
      exact ⟨cutA A0 (n).toNat c0 1, n0 - (n).toNat, c0 - (n).toNat, t.drop n.toNat, A_3, n1 + 1, c_4, acc ++ ([n]), ⟨(hrd.fromI (by omega)), (by rw [List.length_append, hn1]; rfl), (hfac2), (by rw [List.length_append, List.length_singleton]; have a := congrArg List.length hfac2; have b := facL_len u; rw [List.length_append, List.length_append, List.length_singleton] at a; omega)⟩, (by rw [List.length_drop]; omega), (Sub.cons rfl (Sub.cons rfl Sub.nil)), fun _ h => h.sel [1] (by decide) rfl⟩
  ·
    refine w_exit ?_
    refine w_seq ?_
    refine w_reg ?_
    refine wr_y rfl (y_move rfl) ?_
    refine wr_y rfl (y_assign rfl) ?_
    refine wr_nil ?_
    refine w_retR (R1 := [⟨3, 1, A1, n1, c1, ints .i64 acc, false⟩]) (fun _ h => h.sel [0] (by decide) rfl) ?_
    refine ⟨_, rfl, ?_⟩
    have e : t.length = 0 := by omega
    rw [facL_nil e, List.append_nil] at hfac
    rw [hfac]
    obtain rfl := hn1
    exact ⟨_, _, rfl, rfl⟩

/-! whorl/lyndon.Factors -/
set_option maxRecDepth 100000 in
theorem factors_ct {w : World} {A_u : Option Addr} {n_u c_u : Nat} {u : List Int} (h_u : Rd w A_u n_u c_u 1 (ints .u8 u)) (hN : u.length ≤ 1000000) :
    Ct Try.prog 35 #[.slice A_u n_u c_u] w.heap.size w [] (fun v R' => ∃ A c, v = .slice A (facL u).length c ∧ R' = [⟨3, 1, A, (facL u).length, c, ints .i64 (facL u), false⟩]) := by
  obtain rfl := h_u.lenI
  refine fn1 Try.func35 rfl rfl rfl ?_
  have m_u := h_u.max
  refine w_seq ?_
  refine w_reg ?_
  refine wr_y rfl (y_assign rfl) ?_
  refine wr_nil ?_
  refine w_seq ?_
  refine w_reg ?_
  refine wr_sub (R1 := [⟨3, 1, none, 0, 0, ints .i64 ([]), false⟩]) (Sub.refl _) (fun _ h => h.nil 3 1) ?_
  refine wr_y rfl (y_assign rfl) ?_
  refine wr_nil ?_
  refine w_seq ?_
  refine w_seq ?_
  refine w_reg ?_
  refine wr_y rfl (y_assign rfl) ?_
  refine wr_nil ?_
  refine w_block ?_
  refine w_loop5 (fun (a : Int) (A1 : Option Addr) (n1 : Nat) (c1 : Nat) (acc : List Int) => [(0, .slice A_u u.length c_u), (3, .slice A1 n1 c1), (4, .int .i64 a)]) (fun (a : Int) (A1 : Option Addr) (n1 : Nat) (c1 : Nat) (acc : List Int) => [⟨3, 1, A1, n1, c1, ints .i64 acc, false⟩]) (fun (a : Int) (A1 : Option Addr) (n1 : Nat) (c1 : Nat) (acc : List Int) => (0 ≤ a) ∧ (a ≤ u.length) ∧ (n1 = acc.length) ∧ (acc.length ≤ a) ∧ (facL u = acc ++ facL (u.drop a.toNat))) (fun (a : Int) (A1 : Option Addr) (n1 : Nat) (c1 : Nat) (acc : List Int) => (u.length - a).toNat) ?_ ?_
  ·
    exact ⟨0, none, 0, 0, [], ⟨(by omega), (by omega), (rfl), (by simp), (rfl)⟩, (Sub.cons rfl (Sub.cons rfl (Sub.cons rfl Sub.nil))), fun _ h => h⟩
  intro a A1 n1 c1 acc ⟨ha0, ha1, hn1, hlu, hfac⟩
  refine w_seq ?_
  refine w_seq ?_
  refine w_reg ?_
  refine wr_y rfl (y_move rfl) ?_
  refine wr_y rfl (y_move rfl) ?_
  refine wr_y rfl (y_len Try.underlying22 rfl) ?_
  refine wr_y rfl (y_lt rfl rfl) ?_
  refine wr_nil ?_
  refine w_if rfl (fun hc1 => ?_) (fun hc1 => ?_)
  ·
    refine w_skip ?_
    refine w_block ?_
    refine w_seq ?_
    refine w_reg ?_
    refine wr_y rfl (y_move rfl) ?_
    refine wr_y rfl (y_move rfl) ?_
    refine wr_y rfl (y_addI rfl rfl (by omega)) ?_
    refine wr_y rfl (y_assign rfl) ?_
    refine wr_y rfl (y_assign rfl) ?_
    refine wr_nil ?_
    refine w_seq ?_
    refine w_block ?_
    refine w_loop2 (fun (i : Int) (j : Int) => [(0, .slice A_u u.length c_u), (3, .slice A1 n1 c1), (4, .int .i64 a), (5, .int .i64 i), (6, .int .i64 j)]) (fun (i : Int) (j : Int) => [⟨3, 1, A1, n1, c1, ints .i64 acc, false⟩]) (fun (i : Int) (j : Int) => (a ≤ i) ∧ (i < j) ∧ (j ≤ u.length) ∧ (LynAt u a (j - i)) ∧ (PerAt u a (j - i) (j - a))) (fun (i : Int) (j : Int) => (u.length - j).toNat) ?_ ?_
    ·
      exact ⟨a, a + 1, ⟨(by omega), (by omega), (by omega), (duval_start.1), (duval_start.2)⟩, (Sub.cons rfl (Sub.cons rfl (Sub.cons rfl (Sub.cons rfl (Sub.cons rfl Sub.nil))))), fun _ h => h⟩
    intro i j ⟨hai, hij, hj, hL, hP⟩
    refine w_seq ?_
    refine w_join0 [(0, .slice A_u u.length c_u), (3, .slice A1 n1 c1), (4, .int .i64 a), (5, .int .i64 i), (6, .int .i64 j), (28, .bool (decide ((j < ((u.length : Nat) : Int)) ∧ ((rd u i) ≤ (rd u j)))))] [⟨3, 1, A1, n1, c1, ints .i64 acc, false⟩] ?_ ?_
    ·
      refine w_regd mixed ?_
      refine wd_y 0 rfl (by kernel_rfl) rfl (y_move rfl) ?_
      refine wd_y 1 rfl (by kernel_rfl) rfl (y_move rfl) ?_
      refine wd_y 2 rfl (by kernel_rfl) rfl (y_len Try.underlying22 rfl) ?_
      refine wd_y 3 rfl (by kernel_rfl) rfl (y_lt rfl rfl) ?_
      refine wd_y 4 rfl (by kernel_rfl) rfl (y_move rfl) ?_
      refine wd_case 18 rfl (fun hc2 => ?_) (fun hc2 => ?_)
      ·
        refine wd_yg 5 rfl (by kernel_rfl) rfl rfl rfl (y_move rfl) ?_
        refine wd_yg 6 rfl (by kernel_rfl) rfl rfl rfl (y_move rfl) ?_
        refine wd_yg 7 rfl (by kernel_rfl) rfl rfl rfl (y_index1 Try.underlying22 sz5 rfl rfl (h_u.c _) (by omega) (by omega)) ?_
        refine wd_yg 8 rfl (by kernel_rfl) rfl rfl rfl (y_ldI Try.underlying5 rfl rfl (h_u.c _) (by omega) (by omega)) ?_
        refine wd_yg 9 rfl (by kernel_rfl) rfl rfl rfl (y_move rfl) ?_
        refine wd_yg 10 rfl (by kernel_rfl) rfl rfl rfl (y_move rfl) ?_
        refine wd_yg 11 rfl (by kernel_rfl) rfl rfl rfl (y_index1 Try.underlying22 sz5 rfl rfl (h_u.c _) (by omega) (by omega)) ?_
        refine wd_yg 12 rfl (by kernel_rfl) rfl rfl rfl (y_ldI Try.underlying5 rfl rfl (h_u.c _) (by omega) (by omega)) ?_
        refine wd_yg 13 rfl (by kernel_rfl) rfl rfl rfl (y_le rfl rfl) ?_
        refine wd_y 14 rfl (by kernel_rfl) rfl (y_pickT rfl rfl) ?_
        refine wd_nil (by kernel_rfl) ?_
        exact ⟨(Sub.cons rfl (Sub.cons rfl (Sub.cons rfl (Sub.cons rfl (Sub.cons rfl (Sub.to rfl (mb (by first | omega | exact ⟨fun h => ⟨(by assumption), h⟩, fun h => h.2⟩ | simp [*])) Sub.nil)))))), fun _ h => h⟩
      ·
        refine wd_no 5 rfl (by kernel_rfl) rfl rfl rfl rfl ?_
        refine wd_no 6 rfl (by kernel_rfl) rfl rfl rfl rfl ?_
        refine wd_no 7 rfl (by kernel_rfl) rfl rfl rfl rfl ?_
        refine wd_no 8 rfl (by kernel_rfl) rfl rfl rfl rfl ?_
        refine wd_no 9 rfl (by kernel_rfl) rfl rfl rfl rfl ?_
        refine wd_no 10 rfl (by kernel_rfl) rfl rfl rfl rfl ?_
        refine wd_no 11 rfl (by kernel_rfl) rfl rfl rfl rfl ?_
        refine wd_no 12 rfl (by kernel_rfl) rfl rfl rfl rfl ?_
        refine wd_no 13 rfl (by kernel_rfl) rfl rfl rfl rfl ?_
        refine wd_y 14 rfl (by kernel_rfl) rfl (y_pickF rfl rfl) ?_
        refine wd_nil (by kernel_rfl) ?_
        exact ⟨(Sub.cons rfl (Sub.cons rfl (Sub.cons rfl (Sub.cons rfl (Sub.cons rfl (Sub.to rfl (mb_f (by first | omega | exact ⟨fun h => ⟨(by assumption), h⟩, fun h => h.2⟩ | simp [*])) Sub.nil)))))), fun _ h => h⟩
    refine w_if rfl (fun hc3 => ?_) (fun hc3 => ?_)
    ·
      refine w_skip ?_
      refine w_block ?_
      refine w_seq ?_
      refine w_seq ?_
      refine w_regd mixed ?_
      refine wd_y 0 rfl (by kernel_rfl) rfl (y_move rfl) ?_
      refine wd_y 1 rfl (by kernel_rfl) rfl (y_move rfl) ?_
      refine wd_y 2 rfl (by kernel_rfl) rfl (y_index1 Try.underlying22 sz5 rfl rfl (h_u.c _) (by omega) (by omega)) ?_
      refine wd_y 3 rfl (by kernel_rfl) rfl (y_ldI Try.underlying5 rfl rfl (h_u.c _) (by omega) (by omega)) ?_
      refine wd_y 4 rfl (by kernel_rfl) rfl (y_move rfl) ?_
      refine wd_y 5 rfl (by kernel_rfl) rfl (y_move rfl) ?_
      refine wd_y 6 rfl (by kernel_rfl) rfl (y_index1 Try.underlying22 sz5 rfl rfl (h_u.c _) (by omega) (by omega)) ?_
      refine wd_y 7 rfl (by kernel_rfl) rfl (y_ldI Try.underlying5 rfl rfl (h_u.c _) (by omega) (by omega)) ?_
      refine wd_y 8 rfl (by kernel_rfl) rfl (y_lt rfl rfl) ?_
      refine wd_nil (by kernel_rfl) ?_
      refine w_if rfl (fun hc4 => ?_) (fun hc4 => ?_)
      ·
        refine w_reg ?_
        refine wr_y rfl (y_move rfl) ?_
        refine wr_y rfl (y_assign rfl) ?_
        refine wr_nil ?_
        refine w_reg ?_
        refine wr_y rfl (y_move rfl) ?_
        refine wr_y rfl (y_addI rfl rfl (by omega)) ?_
        refine wr_y rfl (y_assign rfl) ?_
        refine wr_nil ?_
        exact ⟨a, j + 1, ⟨(by omega), (by omega), (by omega), ((duval_up ha0 hai hij hL hP hc4).1), ((duval_up ha0 hai hij hL hP hc4).2)⟩, (by omega), (Sub.cons rfl (Sub.cons rfl (Sub.cons rfl (Sub.cons rfl (Sub.cons rfl Sub.nil))))), fun _ h => h⟩
      ·
        refine w_reg ?_
        refine wr_y rfl (y_move rfl) ?_
        refine wr_y rfl (y_addI rfl rfl (by omega)) ?_
        refine wr_y rfl (y_assign rfl) ?_
        refine wr_nil ?_
        refine w_reg ?_
        refine wr_y rfl (y_move rfl) ?_
        refine wr_y rfl (y_addI rfl rfl (by omega)) ?_
        refine wr_y rfl (y_assign rfl) ?_
        refine wr_nil ?_
        exact ⟨i + 1, j + 1, ⟨(by omega), (by omega), (by omega), ((duval_eq ha0 hai hij hL hP hc3.2 hc4).1), ((duval_eq ha0 hai hij hL hP hc3.2 hc4).2)⟩, (by omega), (Sub.cons rfl (Sub.cons rfl (Sub.cons rfl (Sub.cons rfl (Sub.cons rfl Sub.nil))))), fun _ h => h⟩
    ·
      refine w_exit ?_
      refine w_block ?_
      refine w_loop5 (fun (b : Int) (A2 : Option Addr) (n2 : Nat) (c2 : Nat) (ac2 : List Int) => [(0, .slice A_u u.length c_u), (3, .slice A2 n2 c2), (4, .int .i64 b), (5, .int .i64 i), (6, .int .i64 j)]) (fun (b : Int) (A2 : Option Addr) (n2 : Nat) (c2 : Nat) (ac2 : List Int) => [⟨3, 1, A2, n2, c2, ints .i64 ac2, false⟩]) (fun (b : Int) (A2 : Option Addr) (n2 : Nat) (c2 : Nat) (ac2 : List Int) => (a ≤ b) ∧ (b ≤ j) ∧ (n2 = ac2.length) ∧ (ac2.length ≤ b) ∧ (facL u = ac2 ++ facL (u.drop b.toNat)) ∧ (b ≤ i → LynAt u b (j - i) ∧ PerAt u b (j - i) (j - b))) (fun (b : Int) (A2 : Option Addr) (n2 : Nat) (c2 : Nat) (ac2 : List Int) => (j - b).toNat) ?_ ?_
      ·
        exact ⟨a, A1, n1, c1, acc, ⟨(by omega), (by omega), (hn1), (hlu), (hfac), (fun _ => ⟨hL, hP⟩)⟩, (Sub.cons rfl (Sub.cons rfl (Sub.cons rfl (Sub.cons rfl (Sub.cons rfl Sub.nil))))), fun _ h => h⟩
      intro b A2 n2 c2 ac2 ⟨hb0, hb1, hn2, hlu2, hfac2, hLP⟩
      refine w_seq ?_
      refine w_seq ?_
      refine w_reg ?_
      refine wr_y rfl (y_move rfl) ?_
      refine wr_y rfl (y_move rfl) ?_
      refine wr_y rfl (y_le rfl rfl) ?_
      refine wr_nil ?_
      refine w_if rfl (fun hc5 => ?_) (fun hc5 => ?_)
      ·
        refine w_skip ?_
        refine w_block ?_
        refine w_seq ?_
        refine w_reg ?_
        refine wr_y rfl (y_move rfl) ?_
        refine wr_y rfl (y_move rfl) ?_
        refine wr_y rfl (y_move rfl) ?_
        refine wr_y rfl (y_subI rfl rfl (by omega)) ?_
        refine wr_a rfl (a_litI .i64 [j - i] Try.underlying35 zs3 rfl rfl rfl) ?_
        rintro _ _ ⟨g_2, rfl, rfl⟩
        refine wr_a rfl (a_appendI 1 rfl Try.underlying35 zb3 rfl rfl rfl (rdr 0 rfl) (by omega)) ?_
        rintro _ _ ⟨A_3, c_4, rfl, rfl⟩
        refine wr_rows (R1 := [⟨3, 1, (some ⟨g_2, 0, none⟩), 1, 1, ints .i64 ([j - i]), false⟩, ⟨3, 1, A_3, (n2 + 1), c_4, ints .i64 (ac2 ++ ([j - i])), false⟩]) rfl ?_
        refine wr_as (v := .slice A_3 (n2 + 1) c_4) rfl ?_
        refine wr_y rfl (y_assign rfl) ?_
        refine wr_nil ?_
        refine w_reg ?_
        refine wr_y rfl (y_move rfl) ?_
        refine wr_y rfl (y_move rfl) ?_
        refine wr_y rfl (y_move rfl) ?_
        refine wr_y rfl (y_subI rfl rfl (by omega)) ?_
        refine wr_y rfl (y_addI rfl rfl (by omega)) ?_
        refine wr_y rfl (y_assign rfl) ?_
        refine wr_nil ?_
        exact ⟨b + (j - i), A_3, n2 + 1, c_4, ac2 ++ ([j - i]), ⟨(by omega), (by omega), (by rw [List.length_append, hn2]; rfl), (by rw [List.length_append, List.length_singleton]; omega), (by rw [hfac2, duval_out (by omega) hc5 hij hj (hLP hc5).1 (hLP hc5).2 hc3, List.append_assoc]; rfl), (fun h => duval_over (by omega) hij (hLP hc5).1 (hLP hc5).2 h)⟩, (by omega), (Sub.cons rfl (Sub.cons rfl (Sub.cons rfl (Sub.cons rfl (Sub.cons rfl Sub.nil))))), fun _ h => h.sel [1] (by decide) rfl⟩
      ·
        refine w_exit ?_
        exact ⟨b, A2, n2, c2, ac2, ⟨(by omega), (by omega), (hn2), (hlu2), (hfac2)⟩, (by omega), (Sub.cons rfl (Sub.cons rfl (Sub.cons rfl Sub.nil))), fun _ h => h⟩
  ·
    refine w_exit ?_
    refine w_seq ?_
    refine w_reg ?_
    refine wr_y rfl (y_move rfl) ?_
    refine wr_y rfl (y_assign rfl) ?_
    refine wr_nil ?_
    refine w_retR (R1 := [⟨3, 1, A1, n1, c1, ints .i64 acc, false⟩]) (fun _ h => h.sel [0] (by decide) rfl) ?_
    refine ⟨_, rfl, ?_⟩
    have e : (u.drop a.toNat).length = 0 := by rw [List.length_drop]; omega
    rw [facL_nil e, List.append_nil] at hfac
    rw [hfac]
    obtain rfl := hn1
    exact ⟨_, _, rfl, rfl⟩

end Go.Proofs.Ytdfcnalkdlifiaa
