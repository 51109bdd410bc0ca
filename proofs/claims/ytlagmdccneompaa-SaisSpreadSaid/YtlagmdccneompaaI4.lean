/- Walks of Go functions, printed by a program of our own. -/
import Derived.Test.YtlagmdccneompaaI3
namespace Go.Proofs.Ytlagmdccneompaa
open Go Go.Eng Go.Pure
set_option linter.unusedVariables false
/-! whorl/whorlref12.Sort -/
set_option maxRecDepth 100000 in
theorem sort12No1_ct {w : World} {A_s : Option Addr} {n_s c_s : Nat} {s : List Int} {k : Int} {A_l : Option Addr} {n_l c_l : Nat} {l : List Int} (h_s : Rd w A_s n_s c_s 1 (ints .i64 s)) (h_l : Rd w A_l n_l c_l 1 (ints .i64 l)) (hno : ¬ ((0 ≤ k ∧ k ≤ 1048576) ∧ ∀ x ∈ s, 0 ≤ x ∧ x < k)) (hNl : l.length ≤ 1000000) :
    Ct Try.prog 28 #[.slice A_s n_s c_s, .int .i64 k, .slice A_l n_l c_l] w.heap.size w [] (fun v R' => v = .tuple #[.slice none 0 0, .bool false]) := by
  obtain rfl := h_s.lenI
  obtain rfl := h_l.lenI
  refine fn2 Try.func28 rfl rfl rfl ?_
  have m_s := h_s.max
  have m_l := h_l.max
  refine w_seq ?_
  refine w_reg ?_
  refine wr_y rfl (y_assign rfl) ?_
  refine wr_y rfl (y_assign rfl) ?_
  refine wr_nil ?_
  refine w_seq ?_
  refine w_reg ?_
  refine wr_y rfl (y_move rfl) ?_
  refine wr_y rfl (y_move rfl) ?_
  refine wr_a rfl (a_callF en39 rfl (Ct.quiet (fun w hw => counts10No_ct ((h_s.c _) w hw) hno))) ?_
  rintro _ _ ⟨rfl, rfl⟩
  refine wr_y rfl (y_move rfl) ?_
  refine wr_y rfl (y_extract rfl rfl) ?_
  refine wr_y rfl (y_extract rfl rfl) ?_
  refine wr_y rfl (y_assign rfl) ?_
  refine wr_y rfl (y_assign rfl) ?_
  refine wr_nil ?_
  refine w_seq ?_
  refine w_seq ?_
  refine w_reg ?_
  refine wr_y rfl (y_move rfl) ?_
  refine wr_y rfl (y_not rfl) ?_
  refine wr_y rfl (y_move rfl) ?_
  refine wr_no rfl rfl rfl rfl ?_
  refine wr_no rfl rfl rfl rfl ?_
  refine wr_no rfl rfl rfl rfl ?_
  refine wr_no rfl rfl rfl rfl ?_
  refine wr_y rfl (y_pickT rfl rfl) ?_
  refine wr_nil ?_
  refine w_true rfl ?_
  refine w_seq ?_
  refine w_reg ?_
  refine wr_y rfl (y_assign rfl) ?_
  refine wr_y rfl (y_assign rfl) ?_
  refine wr_nil ?_
  refine w_ret ?_
  refine ⟨_, _, rfl, rfl, ?_⟩
  rfl

/-! whorl/whorlref12.Sort -/
set_option maxRecDepth 100000 in
theorem sort12No2_ct {w : World} {A_s : Option Addr} {n_s c_s : Nat} {s : List Int} {k : Int} {A_l : Option Addr} {n_l c_l : Nat} {l : List Int} (h_s : Rd w A_s n_s c_s 1 (ints .i64 s)) (h_l : Rd w A_l n_l c_l 1 (ints .i64 l)) (hok : (0 ≤ k ∧ k ≤ 1048576) ∧ ∀ x ∈ s, 0 ≤ x ∧ x < k) (hnp : ¬ l.Perm (fstL s)) (hN : s.length ≤ 1000000) (hNl : l.length ≤ 1000000) :
    Ct Try.prog 28 #[.slice A_s n_s c_s, .int .i64 k, .slice A_l n_l c_l] w.heap.size w [] (fun v R' => v = .tuple #[.slice none 0 0, .bool false]) := by
  obtain rfl := h_s.lenI
  obtain rfl := h_l.lenI
  refine fn2 Try.func28 rfl rfl rfl ?_
  have m_s := h_s.max
  have m_l := h_l.max
  refine w_seq ?_
  refine w_reg ?_
  refine wr_y rfl (y_assign rfl) ?_
  refine wr_y rfl (y_assign rfl) ?_
  refine wr_nil ?_
  refine w_seq ?_
  refine w_reg ?_
  refine wr_y rfl (y_move rfl) ?_
  refine wr_y rfl (y_move rfl) ?_
  refine wr_a rfl (a_callF en39 rfl (Ct.fresh (fun w hw => counts10_ct ((h_s.c _) w hw) (by first | assumption | omega | decide)))) ?_
  rintro _ _ ⟨_, rfl, A_1, c_2, rfl, rfl⟩
  refine wr_y rfl (y_move rfl) ?_
  refine wr_y rfl (y_extract rfl rfl) ?_
  refine wr_y rfl (y_extract rfl rfl) ?_
  refine wr_y rfl (y_assign rfl) ?_
  refine wr_y rfl (y_assign rfl) ?_
  refine wr_nil ?_
  refine w_seq ?_
  refine w_seq ?_
  refine w_reg ?_
  refine wr_y rfl (y_move rfl) ?_
  refine wr_y rfl (y_not rfl) ?_
  refine wr_y rfl (y_move rfl) ?_
  refine wr_yes rfl rfl ?_
  refine wr_y rfl (y_move rfl) ?_
  refine wr_yes rfl rfl ?_
  refine wr_y rfl (y_move rfl) ?_
  refine wr_yes rfl rfl ?_
  refine wr_a rfl (a_callF en56 rfl (Ct.quiet (fun w hw => may12_ct ((h_s.c _) w hw) ((h_l.c _) w hw) (by omega) (by omega)))) ?_
  rintro _ _ ⟨rfl, rfl⟩
  refine wr_setF 36 rfl (hnp) ?_
  refine wr_yes rfl rfl ?_
  refine wr_y rfl (y_not rfl) ?_
  refine wr_y rfl (y_pickF rfl rfl) ?_
  refine wr_nil ?_
  refine w_true rfl ?_
  refine w_seq ?_
  refine w_reg ?_
  refine wr_y rfl (y_assign rfl) ?_
  refine wr_y rfl (y_assign rfl) ?_
  refine wr_nil ?_
  refine w_retR (R1 := []) (fun _ h => h.sel [] (by decide) rfl) ?_
  refine ⟨_, _, rfl, rfl, ?_⟩
  rfl

/-! whorl/whorlref16.Inverse -/
set_option maxRecDepth 100000 in
set_option maxHeartbeats 600000 in
theorem inv16_ct {w : World} {A_a : Option Addr} {n_a c_a : Nat} {a : List Int} (h_a : Rd w A_a n_a c_a 1 (ints .i64 a)) (hp : a.Perm (iota a.length)) (hN : a.length ≤ 1000000) :
    Ct Try.prog 60 #[.slice A_a n_a c_a] w.heap.size w [] (fun v R' => ∃ A c V, v = .tuple #[.slice A a.length c, .bool true] ∧ R' = [⟨3, 1, A, a.length, c, ints .i64 V, false⟩]) := by
  obtain rfl := h_a.lenI
  refine fn2 Try.func60 rfl rfl rfl ?_
  have m_a := h_a.max
  have hnd : a.Nodup := hp.symm.nodup (iota_nodup _)
  refine w_seq ?_
  refine w_reg ?_
  refine wr_y rfl (y_assign rfl) ?_
  refine wr_y rfl (y_assign rfl) ?_
  refine wr_nil ?_
  refine w_seq ?_
  refine w_reg ?_
  refine wr_y rfl (y_move rfl) ?_
  refine wr_y rfl (y_len Try.underlying22 rfl) ?_
  refine wr_a rfl (a_makeN Try.underlying22 zb3 rfl rfl (by omega) (by omega) (by omega)) ?_
  rintro _ _ ⟨g_1, rfl, rfl⟩
  refine wr_rows (R1 := [⟨3, 1, (some ⟨g_1, 0, none⟩), a.length, a.length, ints .i64 (List.replicate a.length (0 : Int)), false⟩]) rfl ?_
  refine wr_as (v := .slice (some ⟨g_1, 0, none⟩) a.length a.length) rfl ?_
  refine wr_y rfl (y_assign rfl) ?_
  refine wr_nil ?_
  refine w_seq ?_
  refine w_seq ?_
  refine w_reg ?_
  refine wr_y rfl (y_assign rfl) ?_
  refine wr_nil ?_
  refine w_block ?_
  refine w_loop2 (fun (q : Int) (D : List Int) => [(0, .slice A_a a.length c_a), (4, .slice (some ⟨g_1, 0, none⟩) a.length a.length), (5, .int .i64 q)]) (fun (q : Int) (D : List Int) => [⟨3, 1, (some ⟨g_1, 0, none⟩), a.length, a.length, ints .i64 D, false⟩]) (fun (q : Int) (D : List Int) => (0 ≤ q) ∧ (q ≤ a.length) ∧ (D.length = a.length) ∧ (∀ j : Int, 0 ≤ j → j < q → rd D j = -1)) (fun (q : Int) (D : List Int) => (a.length - q).toNat) ?_ ?_
  ·
    exact ⟨0, List.replicate a.length (0 : Int), ⟨(by omega), (by omega), (by rw [List.length_replicate]), (fun j h1 h2 => by omega)⟩, (Sub.cons rfl (Sub.cons rfl (Sub.cons rfl Sub.nil))), fun _ h => h⟩
  intro q D ⟨hq0, hq1, hDl, hD⟩
  refine w_seq ?_
  refine w_seq ?_
  refine w_reg ?_
  refine wr_y rfl (y_move rfl) ?_
  refine wr_y rfl (y_move rfl) ?_
  refine wr_y rfl (y_len Try.underlying22 rfl) ?_
  refine wr_y rfl (y_lt rfl rfl) ?_
  refine wr_nil ?_
  refine w_if rfl (fun hc1 => ?_) (fun hc1 => ?_)
  ·
    refine w_skip ?_
    refine w_seq ?_
    refine w_block ?_
    refine w_reg ?_
    refine wr_y rfl (y_move rfl) ?_
    refine wr_y rfl (y_move rfl) ?_
    refine wr_y rfl (y_index1 Try.underlying22 sz3 rfl rfl (rdr 0 rfl) (by omega) (by omega)) ?_
    refine wr_n (a_storeI 0 rfl sz3 rfl rfl (by omega) (by omega)) ?_
    rintro _ _ rfl
    refine wr_rows (R1 := [⟨3, 1, (some ⟨g_1, 0, none⟩), a.length, a.length, ints .i64 (upd D q (-1)), false⟩]) rfl ?_
    refine wr_nil ?_
    refine w_reg ?_
    refine wr_y rfl (y_move rfl) ?_
    refine wr_y rfl (y_addI rfl rfl (by omega)) ?_
    refine wr_y rfl (y_assign rfl) ?_
    refine wr_nil ?_
    exact ⟨q + 1, upd D q (-1), ⟨(by omega), (by omega), (by rw [upd_length]; exact hDl), (fill_step (f := fun _ => -1) hq0 (by omega) hD rfl)⟩, (by omega), (Sub.cons rfl (Sub.cons rfl (Sub.cons rfl Sub.nil))), fun _ h => h⟩
  ·
    refine w_exit ?_
    refine w_seq ?_
    refine w_seq ?_
    refine w_reg ?_
    refine wr_y rfl (y_assign rfl) ?_
    refine wr_nil ?_
    refine w_block ?_
    refine w_loop2 (fun (i : Int) (D : List Int) => [(0, .slice A_a a.length c_a), (4, .slice (some ⟨g_1, 0, none⟩) a.length a.length), (6, .int .i64 i)]) (fun (i : Int) (D : List Int) => [⟨3, 1, (some ⟨g_1, 0, none⟩), a.length, a.length, ints .i64 D, false⟩]) (fun (i : Int) (D : List Int) => (0 ≤ i) ∧ (i ≤ a.length) ∧ (D.length = a.length) ∧ (∀ x : Int, 0 ≤ x → x < a.length → 0 ≤ rd D x → ∃ q : Int, 0 ≤ q ∧ q < i ∧ rd a q = x)) (fun (i : Int) (D : List Int) => (a.length - i).toNat) ?_ ?_
    ·
      exact ⟨0, D, ⟨(by omega), (by omega), (hDl), (fun x h0 h1 h2 => by have := hD x h0 (by omega); omega)⟩, (Sub.cons rfl (Sub.cons rfl (Sub.cons rfl Sub.nil))), fun _ h => h⟩
    intro i D ⟨hi0, hi1, hDl, hV⟩
    refine w_seq ?_
    refine w_seq ?_
    refine w_reg ?_
    refine wr_y rfl (y_move rfl) ?_
    refine wr_y rfl (y_move rfl) ?_
    refine wr_y rfl (y_len Try.underlying22 rfl) ?_
    refine wr_y rfl (y_lt rfl rfl) ?_
    refine wr_nil ?_
    refine w_if rfl (fun hc2 => ?_) (fun hc2 => ?_)
    ·
      have ha := mem_iota.1 (hp.subset (rd_mem (L := a) hi0 (by omega)))
      refine w_skip ?_
      refine w_seq ?_
      refine w_block ?_
      refine w_seq ?_
      refine w_seq ?_
      refine w_reg ?_
      refine wr_y rfl (y_move rfl) ?_
      refine wr_y rfl (y_move rfl) ?_
      refine wr_y rfl (y_index1 Try.underlying22 sz3 rfl rfl (h_a.c _) (by omega) (by omega)) ?_
      refine wr_y rfl (y_ldI Try.underlying3 rfl rfl (h_a.c _) (by omega) (by omega)) ?_
      refine wr_y rfl (Yl.f (y_lt rfl rfl) (by omega)) ?_
      refine wr_y rfl (y_move rfl) ?_
      refine wr_yes rfl rfl ?_
      refine wr_y rfl (y_move rfl) ?_
      refine wr_yes rfl rfl ?_
      refine wr_y rfl (y_move rfl) ?_
      refine wr_yes rfl rfl ?_
      refine wr_y rfl (y_index1 Try.underlying22 sz3 rfl rfl (h_a.c _) (by omega) (by omega)) ?_
      refine wr_yes rfl rfl ?_
      refine wr_y rfl (y_ldI Try.underlying3 rfl rfl (h_a.c _) (by omega) (by omega)) ?_
      refine wr_yes rfl rfl ?_
      refine wr_y rfl (y_move rfl) ?_
      refine wr_yes rfl rfl ?_
      refine wr_y rfl (y_len Try.underlying22 rfl) ?_
      refine wr_yes rfl rfl ?_
      refine wr_y rfl (Yl.f (y_ge rfl rfl) (by omega)) ?_
      refine wr_y rfl (y_pickF rfl rfl) ?_
      refine wr_y rfl (y_move rfl) ?_
      refine wr_yes rfl rfl ?_
      refine wr_y rfl (y_move rfl) ?_
      refine wr_yes rfl rfl ?_
      refine wr_y rfl (y_move rfl) ?_
      refine wr_yes rfl rfl ?_
      refine wr_y rfl (y_move rfl) ?_
      refine wr_yes rfl rfl ?_
      refine wr_y rfl (y_index1 Try.underlying22 sz3 rfl rfl (h_a.c _) (by omega) (by omega)) ?_
      refine wr_yes rfl rfl ?_
      refine wr_y rfl (y_ldI Try.underlying3 rfl rfl (h_a.c _) (by omega) (by omega)) ?_
      refine wr_yes rfl rfl ?_
      refine wr_y rfl (y_index1 Try.underlying22 sz3 rfl rfl (rdr 0 rfl) (by omega) (by omega)) ?_
      refine wr_yes rfl rfl ?_
      refine wr_y rfl (y_ldI Try.underlying3 rfl rfl (rdr 0 rfl) (by omega) (by omega)) ?_
      refine wr_yes rfl rfl ?_
      refine wr_y rfl (Yl.f (y_ge rfl rfl) (fun h => by
            obtain ⟨q, q0, q1, e⟩ := hV _ ha.1 ha.2 h
            have := rd_inj hnd q0 (by omega) hi0 (by omega) e
            omega)) ?_
      refine wr_y rfl (y_pickF rfl rfl) ?_
      refine wr_nil ?_
      refine w_false rfl ?_
      refine w_skip ?_
      refine w_reg ?_
      refine wr_y rfl (y_move rfl) ?_
      refine wr_y rfl (y_move rfl) ?_
      refine wr_y rfl (y_move rfl) ?_
      refine wr_y rfl (y_index1 Try.underlying22 sz3 rfl rfl (h_a.c _) (by omega) (by omega)) ?_
      refine wr_y rfl (y_ldI Try.underlying3 rfl rfl (h_a.c _) (by omega) (by omega)) ?_
      refine wr_y rfl (y_move rfl) ?_
      refine wr_y rfl (y_index1 Try.underlying22 sz3 rfl rfl (rdr 0 rfl) (by omega) (by omega)) ?_
      refine wr_n (a_storeI 0 rfl sz3 rfl rfl (by omega) (by omega)) ?_
      rintro _ _ rfl
      refine wr_rows (R1 := [⟨3, 1, (some ⟨g_1, 0, none⟩), a.length, a.length, ints .i64 (upd D (rd a i) i), false⟩]) rfl ?_
      refine wr_nil ?_
      refine w_reg ?_
      refine wr_y rfl (y_move rfl) ?_
      refine wr_y rfl (y_addI rfl rfl (by omega)) ?_
      refine wr_y rfl (y_assign rfl) ?_
      refine wr_nil ?_
      exact ⟨i + 1, upd D (rd a i) i, ⟨(by omega), (by omega), (by rw [upd_length]; exact hDl), (fun x x0 x1 hx => by
          rw [rd_upd ha.1 x0 (by omega)] at hx
          by_cases e : x = rd a i
          · exact ⟨i, hi0, by omega, e.symm⟩
          · rw [if_neg e] at hx
            obtain ⟨q, q0, q1, h⟩ := hV x x0 x1 hx
            exact ⟨q, q0, by omega, h⟩)⟩, (by omega), (Sub.cons rfl (Sub.cons rfl (Sub.cons rfl Sub.nil))), fun _ h => h⟩
    ·
      refine w_exit ?_
      refine w_seq ?_
      refine w_reg ?_
      refine wr_y rfl (y_move rfl) ?_
      refine wr_y rfl (y_assign rfl) ?_
      refine wr_y rfl (y_assign rfl) ?_
      refine wr_nil ?_
      refine w_retR (R1 := [⟨3, 1, (some ⟨g_1, 0, none⟩), a.length, a.length, ints .i64 D, false⟩]) (fun _ h => h.sel [0] (by decide) rfl) ?_
      refine ⟨_, _, rfl, rfl, ?_⟩
      exact ⟨_, _, _, rfl, rfl⟩

/-! whorl/whorlref16.Is -/
set_option maxRecDepth 100000 in
theorem is16_ct {w : World} {A_a : Option Addr} {n_a c_a : Nat} {a : List Int} (h_a : Rd w A_a n_a c_a 1 (ints .i64 a)) (hp : a.Perm (iota a.length)) (hN : a.length ≤ 1000000) :
    Ct Try.prog 33 #[.slice A_a n_a c_a] w.heap.size w [] (fun v R' => v = .bool true) := by
  obtain rfl := h_a.lenI
  refine fn1 Try.func33 rfl rfl rfl ?_
  have m_a := h_a.max
  refine w_seq ?_
  refine w_reg ?_
  refine wr_y rfl (y_assign rfl) ?_
  refine wr_nil ?_
  refine w_seq ?_
  refine w_reg ?_
  refine wr_y rfl (y_move rfl) ?_
  refine wr_a rfl (a_callF en60 rfl (Ct.fresh (fun w hw => inv16_ct ((h_a.c _) w hw) hp (by omega)))) ?_
  rintro _ _ ⟨_, rfl, A_1, c_2, V_3, rfl, rfl⟩
  refine wr_y rfl (y_move rfl) ?_
  refine wr_y rfl (y_extract rfl rfl) ?_
  refine wr_y rfl (y_extract rfl rfl) ?_
  refine wr_y rfl (y_assign rfl) ?_
  refine wr_y rfl (y_assign rfl) ?_
  refine wr_nil ?_
  refine w_seq ?_
  refine w_reg ?_
  refine wr_y rfl (y_move rfl) ?_
  refine wr_y rfl (y_assign rfl) ?_
  refine wr_nil ?_
  refine w_retR (R1 := []) (fun _ h => h.sel [] (by decide) rfl) ?_
  refine ⟨_, rfl, ?_⟩
  rfl

theorem fst10 : fstL [1, 0] = [] := by decide +kernel
theorem ind10 : indS [1, 0] 2 [] = [1, 0] := by decide +kernel
/-! whorl/whorllaw12.known -/
set_option maxRecDepth 100000 in
theorem known12_ct {w : World}  :
    Ct Try.prog 29 #[] w.heap.size w [] (fun v R' => v = .bool true) := by
  refine fn1 Try.func29 rfl rfl rfl ?_
  refine w_seq ?_
  refine w_reg ?_
  refine wr_y rfl (y_assign rfl) ?_
  refine wr_nil ?_
  refine w_seq ?_
  refine w_reg ?_
  refine wr_a rfl (a_litI .i64 [1, 0] Try.underlying22 zs3 rfl rfl rfl) ?_
  rintro _ _ ⟨g_2, rfl, rfl⟩
  refine wr_a rfl (a_callF en27 rfl (Ct.fresh (fun w hw => sort_ct ((rdr 0 rfl) w hw) ((rd_nil _) w hw) (by first | assumption | omega | decide) (by first | assumption | omega | decide) (by first | assumption | omega | decide)))) ?_
  rintro _ _ ⟨_, rfl, A_3, c_4, rfl, rfl⟩
  refine wr_y rfl (y_move rfl) ?_
  refine wr_y rfl (y_extract rfl rfl) ?_
  refine wr_y rfl (y_extract rfl rfl) ?_
  refine wr_y rfl (y_assign rfl) ?_
  refine wr_y rfl (y_assign rfl) ?_
  refine wr_nil ?_
  refine w_seq ?_
  refine w_reg ?_
  refine wr_y rfl (y_move rfl) ?_
  refine wr_y rfl (y_move rfl) ?_
  refine wr_yes rfl rfl ?_
  refine wr_y rfl (y_move rfl) ?_
  refine wr_yes rfl rfl ?_
  refine wr_a rfl (a_litI .i64 [1, 0] Try.underlying22 zs3 rfl rfl rfl) ?_
  rintro _ _ ⟨g_7, rfl, rfl⟩
  refine wr_yes rfl rfl ?_
  refine wr_a rfl (a_callF en21 rfl (Ct.quiet (fun w hw => ints4_ct ((rdr 1 rfl) w hw) ((rdr 0 rfl) w hw) (by first | assumption | omega | decide)))) ?_
  rintro _ _ ⟨rfl, rfl⟩
  refine wr_y rfl (y_pickT rfl rfl) ?_
  refine wr_y rfl (Yl.t (y_assign rfl) (ind10)) ?_
  refine wr_nil ?_
  refine w_retR (R1 := []) (fun _ h => h.sel [] (by decide) rfl) ?_
  refine ⟨_, rfl, ?_⟩
  rfl

/-! whorl/whorllaw12.may -/
set_option maxRecDepth 100000 in
theorem lawMay_ct {w : World} {A_s : Option Addr} {n_s c_s : Nat} {s : List Int} {k : Int} (h_s : Rd w A_s n_s c_s 1 (ints .i64 s)) :
    Ct Try.prog 30 #[.slice A_s n_s c_s, .int .i64 k] w.heap.size w [] (fun v R' => v = .bool (decide ((s.length ≤ 120 ∧ 0 ≤ k ∧ k ≤ 2000) ∧ ∀ x ∈ s, 0 ≤ x ∧ x < k))) := by
  obtain rfl := h_s.lenI
  refine fn1 Try.func30 rfl rfl rfl ?_
  have m_s := h_s.max
  refine w_seq ?_
  refine w_reg ?_
  refine wr_y rfl (y_assign rfl) ?_
  refine wr_nil ?_
  refine w_seq ?_
  refine w_seq ?_
  refine w_reg ?_
  refine wr_y rfl (y_move rfl) ?_
  refine wr_y rfl (y_len Try.underlying22 rfl) ?_
  refine wr_y rfl (y_gt rfl rfl) ?_
  refine wr_y rfl (y_move rfl) ?_
  refine wr_mid 3 [(0, .slice A_s s.length c_s), (1, .int .i64 k), (12, .bool (decide ((120 < ((s.length : Nat) : Int)) ∨ (k < 0))))] [] ?_ ?_
  ·
    refine wr_case 9 rfl (fun hc1 => ?_) (fun hc1 => ?_)
    ·
      refine wr_no rfl rfl rfl rfl ?_
      refine wr_no rfl rfl rfl rfl ?_
      refine wr_y rfl (y_pickT rfl rfl) ?_
      refine wr_nil ?_
      exact ⟨(Sub.cons rfl (Sub.cons rfl (Sub.to rfl (mb_t (by first | omega | exact ⟨fun h => ⟨(by assumption), h⟩, fun h => h.2⟩ | simp [*])) Sub.nil))), fun _ h => h⟩
    ·
      refine wr_yes rfl rfl ?_
      refine wr_y rfl (y_move rfl) ?_
      refine wr_yes rfl rfl ?_
      refine wr_y rfl (y_lt rfl rfl) ?_
      refine wr_y rfl (y_pickF rfl rfl) ?_
      refine wr_nil ?_
      exact ⟨(Sub.cons rfl (Sub.cons rfl (Sub.to rfl (mb (by first | omega | exact ⟨fun h => ⟨(by assumption), h⟩, fun h => h.2⟩ | simp [*])) Sub.nil))), fun _ h => h⟩
  refine wr_y rfl (y_move rfl) ?_
  refine wr_mid 3 [(0, .slice A_s s.length c_s), (1, .int .i64 k), (16, .bool (decide (((120 < ((s.length : Nat) : Int)) ∨ (k < 0)) ∨ (2000 < k))))] [] ?_ ?_
  ·
    refine wr_case 13 rfl (fun hc2 => ?_) (fun hc2 => ?_)
    ·
      refine wr_no rfl rfl rfl rfl ?_
      refine wr_no rfl rfl rfl rfl ?_
      refine wr_y rfl (y_pickT rfl rfl) ?_
      refine wr_nil ?_
      exact ⟨(Sub.cons rfl (Sub.cons rfl (Sub.to rfl (mb_t (by first | omega | exact ⟨fun h => ⟨(by assumption), h⟩, fun h => h.2⟩ | simp [*])) Sub.nil))), fun _ h => h⟩
    ·
      refine wr_yes rfl rfl ?_
      refine wr_y rfl (y_move rfl) ?_
      refine wr_yes rfl rfl ?_
      refine wr_y rfl (y_gt rfl rfl) ?_
      refine wr_y rfl (y_pickF rfl rfl) ?_
      refine wr_nil ?_
      exact ⟨(Sub.cons rfl (Sub.cons rfl (Sub.to rfl (mb (by first | omega | exact ⟨fun h => ⟨(by assumption), h⟩, fun h => h.2⟩ | simp [*])) Sub.nil))), fun _ h => h⟩
  refine wr_nil ?_
  refine w_if rfl (fun hc3 => ?_) (fun hc3 => ?_)
  ·
    refine w_seq ?_
    refine w_reg ?_
    refine wr_y rfl (y_assign rfl) ?_
    refine wr_nil ?_
    refine w_ret ?_
    refine ⟨_, rfl, ?_⟩
    exact congrArg Value.bool (decide_eq_false (fun h => by omega)).symm
  ·
    refine w_skip ?_
    refine w_seq ?_
    refine w_seq ?_
    refine w_reg ?_
    refine wr_y rfl (y_assign rfl) ?_
    refine wr_nil ?_
    refine w_block ?_
    refine w_loop1 (fun (i : Int) => [(0, .slice A_s s.length c_s), (1, .int .i64 k), (5, .int .i64 i)]) (fun (i : Int) => []) (fun (i : Int) => (0 ≤ i) ∧ (i ≤ s.length) ∧ (∀ x ∈ s.take i.toNat, 0 ≤ x ∧ x < k)) (fun (i : Int) => (s.length - i).toNat) ?_ ?_
    ·
      exact ⟨0, ⟨(by omega), (by omega), (fun x hx => by cases hx)⟩, (Sub.cons rfl (Sub.cons rfl (Sub.cons rfl Sub.nil))), fun _ h => h⟩
    intro i ⟨hi0, hi1, hall⟩
    refine w_seq ?_
    refine w_seq ?_
    refine w_reg ?_
    refine wr_y rfl (y_move rfl) ?_
    refine wr_y rfl (y_move rfl) ?_
    refine wr_y rfl (y_len Try.underlying22 rfl) ?_
    refine wr_y rfl (y_lt rfl rfl) ?_
    refine wr_nil ?_
    refine w_if rfl (fun hc4 => ?_) (fun hc4 => ?_)
    ·
      refine w_skip ?_
      refine w_seq ?_
      refine w_block ?_
      refine w_seq ?_
      refine w_reg ?_
      refine wr_y rfl (y_move rfl) ?_
      refine wr_y rfl (y_move rfl) ?_
      refine wr_y rfl (y_index1 Try.underlying22 sz3 rfl rfl (h_s.c _) (by omega) (by omega)) ?_
      refine wr_y rfl (y_ldI Try.underlying3 rfl rfl (h_s.c _) (by omega) (by omega)) ?_
      refine wr_y rfl (y_lt rfl rfl) ?_
      refine wr_y rfl (y_move rfl) ?_
      refine wr_mid 7 [(0, .slice A_s s.length c_s), (1, .int .i64 k), (5, .int .i64 i), (35, .bool (decide (((rd s i) < 0) ∨ (k ≤ (rd s i)))))] [] ?_ ?_
      ·
        refine wr_case 28 rfl (fun hc5 => ?_) (fun hc5 => ?_)
        ·
          refine wr_no rfl rfl rfl rfl ?_
          refine wr_no rfl rfl rfl rfl ?_
          refine wr_no rfl rfl rfl rfl ?_
          refine wr_no rfl rfl rfl rfl ?_
          refine wr_no rfl rfl rfl rfl ?_
          refine wr_no rfl rfl rfl rfl ?_
          refine wr_y rfl (y_pickT rfl rfl) ?_
          refine wr_nil ?_
          exact ⟨(Sub.cons rfl (Sub.cons rfl (Sub.cons rfl (Sub.to rfl (mb_t (by first | omega | exact ⟨fun h => ⟨(by assumption), h⟩, fun h => h.2⟩ | simp [*])) Sub.nil)))), fun _ h => h⟩
        ·
          refine wr_yes rfl rfl ?_
          refine wr_y rfl (y_move rfl) ?_
          refine wr_yes rfl rfl ?_
          refine wr_y rfl (y_move rfl) ?_
          refine wr_yes rfl rfl ?_
          refine wr_y rfl (y_index1 Try.underlying22 sz3 rfl rfl (h_s.c _) (by omega) (by omega)) ?_
          refine wr_yes rfl rfl ?_
          refine wr_y rfl (y_ldI Try.underlying3 rfl rfl (h_s.c _) (by omega) (by omega)) ?_
          refine wr_yes rfl rfl ?_
          refine wr_y rfl (y_move rfl) ?_
          refine wr_yes rfl rfl ?_
          refine wr_y rfl (y_ge rfl rfl) ?_
          refine wr_y rfl (y_pickF rfl rfl) ?_
          refine wr_nil ?_
          exact ⟨(Sub.cons rfl (Sub.cons rfl (Sub.cons rfl (Sub.to rfl (mb (by first | omega | exact ⟨fun h => ⟨(by assumption), h⟩, fun h => h.2⟩ | simp [*])) Sub.nil)))), fun _ h => h⟩
      refine wr_nil ?_
      refine w_if rfl (fun hc6 => ?_) (fun hc6 => ?_)
      ·
        refine w_seq ?_
        refine w_reg ?_
        refine wr_y rfl (y_assign rfl) ?_
        refine wr_nil ?_
        refine w_ret ?_
        refine ⟨_, rfl, ?_⟩
        exact congrArg Value.bool (decide_eq_false (fun h => by have := h.2 _ (rd_mem (L := s) hi0 (by omega)); omega)).symm
      ·
        refine w_skip ?_
        refine w_reg ?_
        refine wr_y rfl (y_move rfl) ?_
        refine wr_y rfl (y_addI rfl rfl (by omega)) ?_
        refine wr_y rfl (y_assign rfl) ?_
        refine wr_nil ?_
        exact ⟨i + 1, ⟨(by omega), (by omega), (by rw [take_rd hi0 (by omega)]; intro x hx; rcases List.mem_append.1 hx with hx | hx; exact hall x hx; obtain rfl := List.mem_singleton.1 hx; omega)⟩, (by omega), (Sub.cons rfl (Sub.cons rfl (Sub.cons rfl Sub.nil))), fun _ h => h⟩
    ·
      refine w_exit ?_
      refine w_seq ?_
      refine w_reg ?_
      refine wr_y rfl (y_assign rfl) ?_
      refine wr_nil ?_
      refine w_ret ?_
      refine ⟨_, rfl, ?_⟩
      exact congrArg Value.bool (decide_eq_true ⟨by omega, by rw [List.take_of_length_le (by omega)] at hall; exact hall⟩).symm

theorem swap_perm {D : List Int} {i k : Int} (i0 : 0 ≤ i) (hi : i < D.length) (k0 : 0 ≤ k) (hk : k < D.length) : (upd (upd D i (rd D k)) k (rd D i)).Perm D := by
  unfold upd
  rw [rd_getI i0 hi, rd_getI k0 hk]
  exact List.set_set_perm (by omega) (by omega)
/-! whorl/whorllaw12.turned -/
set_option maxRecDepth 100000 in
set_option maxHeartbeats 600000 in
theorem turned_ct {w : World} {A_l : Option Addr} {n_l c_l : Nat} {l : List Int} {A_b : Option Addr} {n_b c_b : Nat} {b : List Int} (h_l : Rd w A_l n_l c_l 1 (ints .i64 l)) (h_b : Rd w A_b n_b c_b 1 (ints .i64 b)) (hN : l.length ≤ 1000000) :
    Ct Try.prog 31 #[.slice A_l n_l c_l, .slice A_b n_b c_b] w.heap.size w [] (fun v R' => ∃ A c t, v = .slice A l.length c ∧ t.Perm l ∧ R' = [⟨3, 1, A, l.length, c, ints .i64 t, false⟩]) := by
  obtain rfl := h_l.lenI
  obtain rfl := h_b.lenI
  refine fn1 Try.func31 rfl rfl rfl ?_
  have m_l := h_l.max
  have m_b := h_b.max
  refine w_seq ?_
  refine w_reg ?_
  refine wr_y rfl (y_assign rfl) ?_
  refine wr_nil ?_
  refine w_seq ?_
  refine w_reg ?_
  refine wr_a rfl (a_litI .i64 [] Try.underlying22 zs3 rfl rfl rfl) ?_
  rintro _ _ ⟨g_2, rfl, rfl⟩
  refine wr_y rfl (y_move rfl) ?_
  refine wr_a rfl (a_appendI 0 rfl Try.underlying22 zb3 rfl rfl rfl (h_l.c _) (by omega)) ?_
  rintro _ _ ⟨A_3, c_4, rfl, rfl⟩
  refine wr_rows (R1 := [⟨3, 1, A_3, (0 + l.length), c_4, ints .i64 (([]) ++ l), false⟩]) rfl ?_
  refine wr_as (v := .slice A_3 (0 + l.length) c_4) rfl ?_
  refine wr_y rfl (y_assign rfl) ?_
  refine wr_nil ?_
  refine w_seq ?_
  refine w_seq ?_
  refine w_reg ?_
  refine wr_y rfl (y_assign rfl) ?_
  refine wr_nil ?_
  refine w_block ?_
  refine w_loop5 (fun (i : Int) (A1 : Option Addr) (n1 : Nat) (c1 : Nat) (D : List Int) => [(1, .slice A_b b.length c_b), (5, .slice A1 n1 c1), (6, .int .i64 i)]) (fun (i : Int) (A1 : Option Addr) (n1 : Nat) (c1 : Nat) (D : List Int) => [⟨3, 1, A1, n1, c1, ints .i64 D, false⟩]) (fun (i : Int) (A1 : Option Addr) (n1 : Nat) (c1 : Nat) (D : List Int) => (0 ≤ i) ∧ (n1 = l.length) ∧ (D.Perm l)) (fun (i : Int) (A1 : Option Addr) (n1 : Nat) (c1 : Nat) (D : List Int) => (l.length - i).toNat) ?_ ?_
  ·
    exact ⟨0, A_3, 0 + l.length, c_4, ([]) ++ l, ⟨(by omega), (by omega), (.refl _)⟩, (Sub.cons rfl (Sub.cons rfl (Sub.cons rfl Sub.nil))), fun _ h => h⟩
  intro i A1 n1 c1 D ⟨hi0, hn1, hD⟩
  have hDl := hD.length_eq
  refine w_seq ?_
  refine w_seq ?_
  refine w_reg ?_
  refine wr_y rfl (y_move rfl) ?_
  refine wr_y rfl (y_move rfl) ?_
  refine wr_y rfl (y_len Try.underlying22 rfl) ?_
  refine wr_y rfl (y_lt rfl rfl) ?_
  refine wr_y rfl (y_move rfl) ?_
  refine wr_mid 5 [(1, .slice A_b b.length c_b), (5, .slice A1 n1 c1), (6, .int .i64 i), (20, .bool (decide ((i < ((n1 : Nat) : Int)) ∧ (i < ((b.length : Nat) : Int)))))] [⟨3, 1, A1, n1, c1, ints .i64 D, false⟩] ?_ ?_
  ·
    refine wr_case 15 rfl (fun hc1 => ?_) (fun hc1 => ?_)
    ·
      refine wr_yes rfl rfl ?_
      refine wr_y rfl (y_move rfl) ?_
      refine wr_yes rfl rfl ?_
      refine wr_y rfl (y_move rfl) ?_
      refine wr_yes rfl rfl ?_
      refine wr_y rfl (y_len Try.underlying22 rfl) ?_
      refine wr_yes rfl rfl ?_
      refine wr_y rfl (y_lt rfl rfl) ?_
      refine wr_y rfl (y_pickT rfl rfl) ?_
      refine wr_nil ?_
      exact ⟨(Sub.cons rfl (Sub.cons rfl (Sub.cons rfl (Sub.to rfl (mb (by first | omega | exact ⟨fun h => ⟨(by assumption), h⟩, fun h => h.2⟩ | simp [*])) Sub.nil)))), fun _ h => h⟩
    ·
      refine wr_no rfl rfl rfl rfl ?_
      refine wr_no rfl rfl rfl rfl ?_
      refine wr_no rfl rfl rfl rfl ?_
      refine wr_no rfl rfl rfl rfl ?_
      refine wr_y rfl (y_pickF rfl rfl) ?_
      refine wr_nil ?_
      exact ⟨(Sub.cons rfl (Sub.cons rfl (Sub.cons rfl (Sub.to rfl (mb_f (by first | omega | exact ⟨fun h => ⟨(by assumption), h⟩, fun h => h.2⟩ | simp [*])) Sub.nil)))), fun _ h => h⟩
  refine wr_nil ?_
  refine w_if rfl (fun hc2 => ?_) (fun hc2 => ?_)
  ·
    have hk0 : 0 ≤ ((BitVec.ofInt 64 (rd b i) &&& 65535#64).toNat : Int) % ((n1 : Nat) : Int) := Int.emod_nonneg _ (by omega)
    have hk1 : ((BitVec.ofInt 64 (rd b i) &&& 65535#64).toNat : Int) % ((n1 : Nat) : Int) < D.length := by
      have := Int.emod_lt_of_pos ((BitVec.ofInt 64 (rd b i) &&& 65535#64).toNat : Int) (show (0 : Int) < ((n1 : Nat) : Int) by omega)
      omega
    refine w_skip ?_
    refine w_seq ?_
    refine w_block ?_
    refine w_seq ?_
    refine w_reg ?_
    refine wr_y rfl (y_move rfl) ?_
    refine wr_y rfl (y_move rfl) ?_
    refine wr_y rfl (y_index1 Try.underlying22 sz3 rfl rfl (h_b.c _) (by omega) (by omega)) ?_
    refine wr_y rfl (y_ldI Try.underlying3 rfl rfl (h_b.c _) (by omega) (by omega)) ?_
    refine wr_y rfl (y_andM (m := 65535) rfl rfl) ?_
    refine wr_y rfl (y_move rfl) ?_
    refine wr_y rfl (y_len Try.underlying22 rfl) ?_
    refine wr_y rfl (y_rem rfl rfl (by omega) (by omega)) ?_
    refine wr_y rfl (y_assign rfl) ?_
    refine wr_nil ?_
    refine w_regd mixed ?_
    refine wd_y 0 rfl (by kernel_rfl) rfl (y_move rfl) ?_
    refine wd_y 1 rfl (by kernel_rfl) rfl (y_move rfl) ?_
    refine wd_y 2 rfl (by kernel_rfl) rfl (y_move rfl) ?_
    refine wd_y 3 rfl (by kernel_rfl) rfl (y_move rfl) ?_
    refine wd_y 4 rfl (by kernel_rfl) rfl (y_move rfl) ?_
    refine wd_y 5 rfl (by kernel_rfl) rfl (y_move rfl) ?_
    refine wd_y 6 rfl (by kernel_rfl) rfl (y_index1 Try.underlying22 sz3 rfl rfl (rdr 0 rfl) (by omega) (by omega)) ?_
    refine wd_y 7 rfl (by kernel_rfl) rfl (y_ldI Try.underlying3 rfl rfl (rdr 0 rfl) (by omega) (by omega)) ?_
    refine wd_y 8 rfl (by kernel_rfl) rfl (y_move rfl) ?_
    refine wd_y 9 rfl (by kernel_rfl) rfl (y_move rfl) ?_
    refine wd_y 10 rfl (by kernel_rfl) rfl (y_index1 Try.underlying22 sz3 rfl rfl (rdr 0 rfl) (by omega) (by omega)) ?_
    refine wd_y 11 rfl (by kernel_rfl) rfl (y_ldI Try.underlying3 rfl rfl (rdr 0 rfl) (by omega) (by omega)) ?_
    refine wd_y 12 rfl (by kernel_rfl) rfl (y_index1 Try.underlying22 sz3 rfl rfl (rdr 0 rfl) (by omega) (by omega)) ?_
    refine wd_n 13 rfl (by kernel_rfl) (a_storeI 0 rfl sz3 rfl rfl (by omega) (by omega)) ?_
    rintro _ _ rfl
    refine ⟨.inl (by kernel_rfl), ?_⟩
    refine wd_rows (R1 := [⟨3, 1, A1, n1, c1, ints .i64 (upd D i (rd D (((BitVec.ofInt 64 (rd b i) &&& 65535#64).toNat : Int) % ((n1 : Nat) : Int)))), false⟩]) rfl ?_
    refine wd_y 14 rfl (by kernel_rfl) rfl (y_index1 Try.underlying22 sz3 rfl rfl (rdr 0 rfl) (by omega) (by omega)) ?_
    refine wd_n 15 rfl (by kernel_rfl) (a_storeI 0 rfl sz3 rfl rfl (by omega) (by omega)) ?_
    rintro _ _ rfl
    refine ⟨.inl (by kernel_rfl), ?_⟩
    refine wd_rows (R1 := [⟨3, 1, A1, n1, c1, ints .i64 (upd (upd D i (rd D (((BitVec.ofInt 64 (rd b i) &&& 65535#64).toNat : Int) % ((n1 : Nat) : Int)))) (((BitVec.ofInt 64 (rd b i) &&& 65535#64).toNat : Int) % ((n1 : Nat) : Int)) (rd D i)), false⟩]) rfl ?_
    refine wd_nil (by kernel_rfl) ?_
    refine w_reg ?_
    refine wr_y rfl (y_move rfl) ?_
    refine wr_y rfl (y_addI rfl rfl (by omega)) ?_
    refine wr_y rfl (y_assign rfl) ?_
    refine wr_nil ?_
    exact ⟨i + 1, A1, n1, c1, upd (upd D i (rd D (((BitVec.ofInt 64 (rd b i) &&& 65535#64).toNat : Int) % ((n1 : Nat) : Int)))) (((BitVec.ofInt 64 (rd b i) &&& 65535#64).toNat : Int) % ((n1 : Nat) : Int)) (rd D i), ⟨(by omega), (hn1), ((swap_perm hi0 (by omega) hk0 hk1).trans hD)⟩, (by omega), (Sub.cons rfl (Sub.cons rfl (Sub.cons rfl Sub.nil))), fun _ h => h⟩
  ·
    refine w_exit ?_
    refine w_seq ?_
    refine w_reg ?_
    refine wr_y rfl (y_move rfl) ?_
    refine wr_y rfl (y_assign rfl) ?_
    refine wr_nil ?_
    refine w_retR (R1 := [⟨3, 1, A1, n1, c1, ints .i64 D, false⟩]) (fun _ h => h.sel [0] (by decide) rfl) ?_
    refine ⟨_, rfl, ?_⟩
    subst hn1
    exact ⟨_, _, _, rfl, hD, rfl⟩

theorem indS_lenP {s l : List Int} {k : Int} (hok : (0 ≤ k ∧ k ≤ 1048576) ∧ ∀ x ∈ s, 0 ≤ x ∧ x < k) (hp : l.Perm (fstL s)) : (indS s k l).length = s.length := indS_len hok.1.1 hok.2 hp
/-! whorl/whorllaw12.InduceSorts -/
set_option maxRecDepth 100000 in
theorem iSortsA_ct {w : World} {A_s : Option Addr} {n_s c_s : Nat} {s : List Int} {k : Int} {A_l : Option Addr} {n_l c_l : Nat} {l : List Int} (h_s : Rd w A_s n_s c_s 1 (ints .i64 s)) (h_l : Rd w A_l n_l c_l 1 (ints .i64 l)) (hok : (0 ≤ k ∧ k ≤ 1048576) ∧ ∀ x ∈ s, 0 ≤ x ∧ x < k) (hp : l.Perm (fstL s)) :
    Ct Try.prog 10 #[.slice A_s n_s c_s, .int .i64 k, .slice A_l n_l c_l] w.heap.size w [] (fun v R' => v = .bool true) := by
  obtain rfl := h_s.lenI
  obtain rfl := h_l.lenI
  refine fn1 Try.func10 rfl rfl rfl ?_
  have m_s := h_s.max
  have m_l := h_l.max
  refine w_seq ?_
  refine w_reg ?_
  refine wr_y rfl (y_assign rfl) ?_
  refine wr_nil ?_
  refine w_seq ?_
  refine w_seq ?_
  refine w_reg ?_
  refine wr_y rfl (y_move rfl) ?_
  refine wr_y rfl (y_len Try.underlying22 rfl) ?_
  refine wr_y rfl (y_gt rfl rfl) ?_
  refine wr_y rfl (y_move rfl) ?_
  refine wr_mid 4 [(0, .slice A_s s.length c_s), (1, .int .i64 k), (2, .slice A_l l.length c_l), (18, .bool (decide ((120 < ((s.length : Nat) : Int)) ∨ (120 < ((l.length : Nat) : Int)))))] [] ?_ ?_
  ·
    refine wr_case 14 rfl (fun hc1 => ?_) (fun hc1 => ?_)
    ·
      refine wr_no rfl rfl rfl rfl ?_
      refine wr_no rfl rfl rfl rfl ?_
      refine wr_no rfl rfl rfl rfl ?_
      refine wr_y rfl (y_pickT rfl rfl) ?_
      refine wr_nil ?_
      exact ⟨(Sub.cons rfl (Sub.cons rfl (Sub.cons rfl (Sub.to rfl (mb_t (by first | omega | exact ⟨fun h => ⟨(by assumption), h⟩, fun h => h.2⟩ | simp [*])) Sub.nil)))), fun _ h => h⟩
    ·
      refine wr_yes rfl rfl ?_
      refine wr_y rfl (y_move rfl) ?_
      refine wr_yes rfl rfl ?_
      refine wr_y rfl (y_len Try.underlying22 rfl) ?_
      refine wr_yes rfl rfl ?_
      refine wr_y rfl (y_gt rfl rfl) ?_
      refine wr_y rfl (y_pickF rfl rfl) ?_
      refine wr_nil ?_
      exact ⟨(Sub.cons rfl (Sub.cons rfl (Sub.cons rfl (Sub.to rfl (mb (by first | omega | exact ⟨fun h => ⟨(by assumption), h⟩, fun h => h.2⟩ | simp [*])) Sub.nil)))), fun _ h => h⟩
  refine wr_y rfl (y_move rfl) ?_
  refine wr_mid 7 [(0, .slice A_s s.length c_s), (1, .int .i64 k), (2, .slice A_l l.length c_l), (26, .bool (decide (((120 < ((s.length : Nat) : Int)) ∨ (120 < ((l.length : Nat) : Int))) ∨ ((5000 < k) ∧ (k ≤ 1048576)))))] [] ?_ ?_
  ·
    refine wr_case 19 rfl (fun hc2 => ?_) (fun hc2 => ?_)
    ·
      refine wr_no rfl rfl rfl rfl ?_
      refine wr_no rfl rfl rfl rfl ?_
      refine wr_no rfl rfl rfl rfl ?_
      refine wr_nou rfl rfl rfl ?_
      refine wr_nou rfl rfl rfl ?_
      refine wr_no rfl rfl rfl rfl ?_
      refine wr_y rfl (y_pickT rfl rfl) ?_
      refine wr_nil ?_
      exact ⟨(Sub.cons rfl (Sub.cons rfl (Sub.cons rfl (Sub.to rfl (mb_t (by first | omega | exact ⟨fun h => ⟨(by assumption), h⟩, fun h => h.2⟩ | simp [*])) Sub.nil)))), fun _ h => h⟩
    ·
      refine wr_yes rfl rfl ?_
      refine wr_y rfl (y_move rfl) ?_
      refine wr_yes rfl rfl ?_
      refine wr_y rfl (y_gt rfl rfl) ?_
      refine wr_yes rfl rfl ?_
      refine wr_y rfl (y_move rfl) ?_
      refine wr_mid 3 [(0, .slice A_s s.length c_s), (1, .int .i64 k), (2, .slice A_l l.length c_l), (19, .bool false), (25, .bool (decide ((5000 < k) ∧ (k ≤ 1048576))))] [] ?_ ?_
      ·
        refine wr_case 22 rfl (fun hc3 => ?_) (fun hc3 => ?_)
        ·
          refine wr_yes rfl rfl ?_
          refine wr_y rfl (y_move rfl) ?_
          refine wr_yes rfl rfl ?_
          refine wr_y rfl (y_le rfl rfl) ?_
          refine wr_yes rfl rfl ?_
          refine wr_y rfl (y_pickT rfl rfl) ?_
          refine wr_nil ?_
          exact ⟨(Sub.cons rfl (Sub.cons rfl (Sub.cons rfl (Sub.cons rfl (Sub.to rfl (mb (by first | omega | exact ⟨fun h => ⟨(by assumption), h⟩, fun h => h.2⟩ | simp [*])) Sub.nil))))), fun _ h => h⟩
        ·
          refine wr_no rfl rfl rfl rfl ?_
          refine wr_no rfl rfl rfl rfl ?_
          refine wr_yes rfl rfl ?_
          refine wr_y rfl (y_pickF rfl rfl) ?_
          refine wr_nil ?_
          exact ⟨(Sub.cons rfl (Sub.cons rfl (Sub.cons rfl (Sub.cons rfl (Sub.to rfl (mb_f (by first | omega | exact ⟨fun h => ⟨(by assumption), h⟩, fun h => h.2⟩ | simp [*])) Sub.nil))))), fun _ h => h⟩
      refine wr_y rfl (y_pickF rfl rfl) ?_
      refine wr_nil ?_
      exact ⟨(Sub.cons rfl (Sub.cons rfl (Sub.cons rfl (Sub.to rfl (mb (by first | omega | exact ⟨fun h => ⟨(by assumption), h⟩, fun h => h.2⟩ | simp [*])) Sub.nil)))), fun _ h => h⟩
  refine wr_nil ?_
  refine w_if rfl (fun hc4 => ?_) (fun hc4 => ?_)
  ·
    refine w_seq ?_
    refine w_reg ?_
    refine wr_y rfl (y_assign rfl) ?_
    refine wr_nil ?_
    refine w_ret ?_
    refine ⟨_, rfl, ?_⟩
    rfl
  ·
    refine w_skip ?_
    refine w_seq ?_
    refine w_reg ?_
    refine wr_y rfl (y_move rfl) ?_
    refine wr_y rfl (y_move rfl) ?_
    refine wr_y rfl (y_move rfl) ?_
    refine wr_a rfl (a_callF en27 rfl (Ct.fresh (fun w hw => sort_ct ((h_s.c _) w hw) ((h_l.c _) w hw) (by first | assumption | omega | decide) (by first | assumption | omega | decide) (by omega)))) ?_
    rintro _ _ ⟨_, rfl, A_1, c_2, rfl, rfl⟩
    refine wr_y rfl (y_move rfl) ?_
    refine wr_y rfl (y_extract rfl rfl) ?_
    refine wr_y rfl (y_extract rfl rfl) ?_
    refine wr_y rfl (y_assign rfl) ?_
    refine wr_y rfl (y_assign rfl) ?_
    refine wr_nil ?_
    refine w_seq ?_
    refine w_reg ?_
    refine wr_y rfl (y_move rfl) ?_
    refine wr_y rfl (y_move rfl) ?_
    refine wr_y rfl (y_move rfl) ?_
    refine wr_a rfl (a_callF en28 rfl (Ct.fresh (fun w hw => sort12_ct ((h_s.c _) w hw) ((h_l.c _) w hw) (by first | assumption | omega | decide) (by first | assumption | omega | decide) (by omega)))) ?_
    rintro _ _ ⟨_, rfl, A_4, c_5, rfl, rfl⟩
    refine wr_y rfl (y_move rfl) ?_
    refine wr_y rfl (y_extract rfl rfl) ?_
    refine wr_y rfl (y_extract rfl rfl) ?_
    refine wr_y rfl (y_assign rfl) ?_
    refine wr_y rfl (y_assign rfl) ?_
    refine wr_nil ?_
    refine w_seq ?_
    refine w_reg ?_
    refine wr_y rfl (y_move rfl) ?_
    refine wr_y rfl (y_move rfl) ?_
    refine wr_a rfl (a_callF en21 rfl (Ct.quiet (fun w hw => ints4_ct ((rdr 1 rfl) w hw) ((rdr 0 rfl) w hw) (by rw [indS_lenP hok hp]; omega)))) ?_
    rintro _ _ ⟨rfl, rfl⟩
    refine wr_setT 43 rfl (rfl) ?_
    refine wr_y rfl (y_move rfl) ?_
    refine wr_yes rfl rfl ?_
    refine wr_y rfl (y_move rfl) ?_
    refine wr_yes rfl rfl ?_
    refine wr_y rfl (y_move rfl) ?_
    refine wr_yes rfl rfl ?_
    refine wr_y rfl (Yl.t (y_eqB Try.underlying4 rfl rfl) (rfl)) ?_
    refine wr_y rfl (y_pickT rfl rfl) ?_
    refine wr_y rfl (y_move rfl) ?_
    refine wr_yes rfl rfl ?_
    refine wr_a rfl (a_callF en29 rfl (Ct.quiet (fun w hw => known12_ct))) ?_
    rintro _ _ ⟨rfl, rfl⟩
    refine wr_y rfl (y_pickT rfl rfl) ?_
    refine wr_y rfl (y_assign rfl) ?_
    refine wr_nil ?_
    refine w_retR (R1 := []) (fun _ h => h.sel [] (by decide) rfl) ?_
    refine ⟨_, rfl, ?_⟩
    rfl

/-! whorl/whorllaw12.InduceSorts -/
set_option maxRecDepth 100000 in
theorem iSortsB_ct {w : World} {A_s : Option Addr} {n_s c_s : Nat} {s : List Int} {k : Int} {A_l : Option Addr} {n_l c_l : Nat} {l : List Int} (h_s : Rd w A_s n_s c_s 1 (ints .i64 s)) (h_l : Rd w A_l n_l c_l 1 (ints .i64 l)) (hno : ¬ ((0 ≤ k ∧ k ≤ 1048576) ∧ ∀ x ∈ s, 0 ≤ x ∧ x < k)) :
    Ct Try.prog 10 #[.slice A_s n_s c_s, .int .i64 k, .slice A_l n_l c_l] w.heap.size w [] (fun v R' => v = .bool true) := by
  obtain rfl := h_s.lenI
  obtain rfl := h_l.lenI
  refine fn1 Try.func10 rfl rfl rfl ?_
  have m_s := h_s.max
  have m_l := h_l.max
  refine w_seq ?_
  refine w_reg ?_
  refine wr_y rfl (y_assign rfl) ?_
  refine wr_nil ?_
  refine w_seq ?_
  refine w_seq ?_
  refine w_reg ?_
  refine wr_y rfl (y_move rfl) ?_
  refine wr_y rfl (y_len Try.underlying22 rfl) ?_
  refine wr_y rfl (y_gt rfl rfl) ?_
  refine wr_y rfl (y_move rfl) ?_
  refine wr_mid 4 [(0, .slice A_s s.length c_s), (1, .int .i64 k), (2, .slice A_l l.length c_l), (18, .bool (decide ((120 < ((s.length : Nat) : Int)) ∨ (120 < ((l.length : Nat) : Int)))))] [] ?_ ?_
  ·
    refine wr_case 14 rfl (fun hc1 => ?_) (fun hc1 => ?_)
    ·
      refine wr_no rfl rfl rfl rfl ?_
      refine wr_no rfl rfl rfl rfl ?_
      refine wr_no rfl rfl rfl rfl ?_
      refine wr_y rfl (y_pickT rfl rfl) ?_
      refine wr_nil ?_
      exact ⟨(Sub.cons rfl (Sub.cons rfl (Sub.cons rfl (Sub.to rfl (mb_t (by first | omega | exact ⟨fun h => ⟨(by assumption), h⟩, fun h => h.2⟩ | simp [*])) Sub.nil)))), fun _ h => h⟩
    ·
      refine wr_yes rfl rfl ?_
      refine wr_y rfl (y_move rfl) ?_
      refine wr_yes rfl rfl ?_
      refine wr_y rfl (y_len Try.underlying22 rfl) ?_
      refine wr_yes rfl rfl ?_
      refine wr_y rfl (y_gt rfl rfl) ?_
      refine wr_y rfl (y_pickF rfl rfl) ?_
      refine wr_nil ?_
      exact ⟨(Sub.cons rfl (Sub.cons rfl (Sub.cons rfl (Sub.to rfl (mb (by first | omega | exact ⟨fun h => ⟨(by assumption), h⟩, fun h => h.2⟩ | simp [*])) Sub.nil)))), fun _ h => h⟩
  refine wr_y rfl (y_move rfl) ?_
  refine wr_mid 7 [(0, .slice A_s s.length c_s), (1, .int .i64 k), (2, .slice A_l l.length c_l), (26, .bool (decide (((120 < ((s.length : Nat) : Int)) ∨ (120 < ((l.length : Nat) : Int))) ∨ ((5000 < k) ∧ (k ≤ 1048576)))))] [] ?_ ?_
  ·
    refine wr_case 19 rfl (fun hc2 => ?_) (fun hc2 => ?_)
    ·
      refine wr_no rfl rfl rfl rfl ?_
      refine wr_no rfl rfl rfl rfl ?_
      refine wr_no rfl rfl rfl rfl ?_
      refine wr_nou rfl rfl rfl ?_
      refine wr_nou rfl rfl rfl ?_
      refine wr_no rfl rfl rfl rfl ?_
      refine wr_y rfl (y_pickT rfl rfl) ?_
      refine wr_nil ?_
      exact ⟨(Sub.cons rfl (Sub.cons rfl (Sub.cons rfl (Sub.to rfl (mb_t (by first | omega | exact ⟨fun h => ⟨(by assumption), h⟩, fun h => h.2⟩ | simp [*])) Sub.nil)))), fun _ h => h⟩
    ·
      refine wr_yes rfl rfl ?_
      refine wr_y rfl (y_move rfl) ?_
      refine wr_yes rfl rfl ?_
      refine wr_y rfl (y_gt rfl rfl) ?_
      refine wr_yes rfl rfl ?_
      refine wr_y rfl (y_move rfl) ?_
      refine wr_mid 3 [(0, .slice A_s s.length c_s), (1, .int .i64 k), (2, .slice A_l l.length c_l), (19, .bool false), (25, .bool (decide ((5000 < k) ∧ (k ≤ 1048576))))] [] ?_ ?_
      ·
        refine wr_case 22 rfl (fun hc3 => ?_) (fun hc3 => ?_)
        ·
          refine wr_yes rfl rfl ?_
          refine wr_y rfl (y_move rfl) ?_
          refine wr_yes rfl rfl ?_
          refine wr_y rfl (y_le rfl rfl) ?_
          refine wr_yes rfl rfl ?_
          refine wr_y rfl (y_pickT rfl rfl) ?_
          refine wr_nil ?_
          exact ⟨(Sub.cons rfl (Sub.cons rfl (Sub.cons rfl (Sub.cons rfl (Sub.to rfl (mb (by first | omega | exact ⟨fun h => ⟨(by assumption), h⟩, fun h => h.2⟩ | simp [*])) Sub.nil))))), fun _ h => h⟩
        ·
          refine wr_no rfl rfl rfl rfl ?_
          refine wr_no rfl rfl rfl rfl ?_
          refine wr_yes rfl rfl ?_
          refine wr_y rfl (y_pickF rfl rfl) ?_
          refine wr_nil ?_
          exact ⟨(Sub.cons rfl (Sub.cons rfl (Sub.cons rfl (Sub.cons rfl (Sub.to rfl (mb_f (by first | omega | exact ⟨fun h => ⟨(by assumption), h⟩, fun h => h.2⟩ | simp [*])) Sub.nil))))), fun _ h => h⟩
      refine wr_y rfl (y_pickF rfl rfl) ?_
      refine wr_nil ?_
      exact ⟨(Sub.cons rfl (Sub.cons rfl (Sub.cons rfl (Sub.to rfl (mb (by first | omega | exact ⟨fun h => ⟨(by assumption), h⟩, fun h => h.2⟩ | simp [*])) Sub.nil)))), fun _ h => h⟩
  refine wr_nil ?_
  refine w_if rfl (fun hc4 => ?_) (fun hc4 => ?_)
  ·
    refine w_seq ?_
    refine w_reg ?_
    refine wr_y rfl (y_assign rfl) ?_
    refine wr_nil ?_
    refine w_ret ?_
    refine ⟨_, rfl, ?_⟩
    rfl
  ·
    refine w_skip ?_
    refine w_seq ?_
    refine w_reg ?_
    refine wr_y rfl (y_move rfl) ?_
    refine wr_y rfl (y_move rfl) ?_
    refine wr_y rfl (y_move rfl) ?_
    refine wr_a rfl (a_callF en27 rfl (Ct.quiet (fun w hw => sortNo1_ct ((h_s.c _) w hw) ((h_l.c _) w hw) hno (by omega)))) ?_
    rintro _ _ ⟨rfl, rfl⟩
    refine wr_y rfl (y_move rfl) ?_
    refine wr_y rfl (y_extract rfl rfl) ?_
    refine wr_y rfl (y_extract rfl rfl) ?_
    refine wr_y rfl (y_assign rfl) ?_
    refine wr_y rfl (y_assign rfl) ?_
    refine wr_nil ?_
    refine w_seq ?_
    refine w_reg ?_
    refine wr_y rfl (y_move rfl) ?_
    refine wr_y rfl (y_move rfl) ?_
    refine wr_y rfl (y_move rfl) ?_
    refine wr_a rfl (a_callF en28 rfl (Ct.quiet (fun w hw => sort12No1_ct ((h_s.c _) w hw) ((h_l.c _) w hw) hno (by omega)))) ?_
    rintro _ _ ⟨rfl, rfl⟩
    refine wr_y rfl (y_move rfl) ?_
    refine wr_y rfl (y_extract rfl rfl) ?_
    refine wr_y rfl (y_extract rfl rfl) ?_
    refine wr_y rfl (y_assign rfl) ?_
    refine wr_y rfl (y_assign rfl) ?_
    refine wr_nil ?_
    refine w_seq ?_
    refine w_reg ?_
    refine wr_y rfl (y_move rfl) ?_
    refine wr_y rfl (y_move rfl) ?_
    refine wr_a rfl (a_callF en21 rfl (Ct.quiet (fun w hw => ints4_ct ((rd_nil _) w hw) ((rd_nil _) w hw) (by decide)))) ?_
    rintro _ _ ⟨rfl, rfl⟩
    refine wr_setT 43 rfl (rfl) ?_
    refine wr_y rfl (y_move rfl) ?_
    refine wr_yes rfl rfl ?_
    refine wr_y rfl (y_move rfl) ?_
    refine wr_yes rfl rfl ?_
    refine wr_y rfl (y_move rfl) ?_
    refine wr_yes rfl rfl ?_
    refine wr_y rfl (Yl.t (y_eqB Try.underlying4 rfl rfl) (rfl)) ?_
    refine wr_y rfl (y_pickT rfl rfl) ?_
    refine wr_y rfl (y_move rfl) ?_
    refine wr_yes rfl rfl ?_
    refine wr_a rfl (a_callF en29 rfl (Ct.quiet (fun w hw => known12_ct))) ?_
    rintro _ _ ⟨rfl, rfl⟩
    refine wr_y rfl (y_pickT rfl rfl) ?_
    refine wr_y rfl (y_assign rfl) ?_
    refine wr_nil ?_
    refine w_ret ?_
    refine ⟨_, rfl, ?_⟩
    rfl

/-! whorl/whorllaw12.InduceSorts -/
set_option maxRecDepth 100000 in
theorem iSortsC_ct {w : World} {A_s : Option Addr} {n_s c_s : Nat} {s : List Int} {k : Int} {A_l : Option Addr} {n_l c_l : Nat} {l : List Int} (h_s : Rd w A_s n_s c_s 1 (ints .i64 s)) (h_l : Rd w A_l n_l c_l 1 (ints .i64 l)) (hok : (0 ≤ k ∧ k ≤ 1048576) ∧ ∀ x ∈ s, 0 ≤ x ∧ x < k) (hnp : ¬ l.Perm (fstL s)) :
    Ct Try.prog 10 #[.slice A_s n_s c_s, .int .i64 k, .slice A_l n_l c_l] w.heap.size w [] (fun v R' => v = .bool true) := by
  obtain rfl := h_s.lenI
  obtain rfl := h_l.lenI
  refine fn1 Try.func10 rfl rfl rfl ?_
  have m_s := h_s.max
  have m_l := h_l.max
  refine w_seq ?_
  refine w_reg ?_
  refine wr_y rfl (y_assign rfl) ?_
  refine wr_nil ?_
  refine w_seq ?_
  refine w_seq ?_
  refine w_reg ?_
  refine wr_y rfl (y_move rfl) ?_
  refine wr_y rfl (y_len Try.underlying22 rfl) ?_
  refine wr_y rfl (y_gt rfl rfl) ?_
  refine wr_y rfl (y_move rfl) ?_
  refine wr_mid 4 [(0, .slice A_s s.length c_s), (1, .int .i64 k), (2, .slice A_l l.length c_l), (18, .bool (decide ((120 < ((s.length : Nat) : Int)) ∨ (120 < ((l.length : Nat) : Int)))))] [] ?_ ?_
  ·
    refine wr_case 14 rfl (fun hc1 => ?_) (fun hc1 => ?_)
    ·
      refine wr_no rfl rfl rfl rfl ?_
      refine wr_no rfl rfl rfl rfl ?_
      refine wr_no rfl rfl rfl rfl ?_
      refine wr_y rfl (y_pickT rfl rfl) ?_
      refine wr_nil ?_
      exact ⟨(Sub.cons rfl (Sub.cons rfl (Sub.cons rfl (Sub.to rfl (mb_t (by first | omega | exact ⟨fun h => ⟨(by assumption), h⟩, fun h => h.2⟩ | simp [*])) Sub.nil)))), fun _ h => h⟩
    ·
      refine wr_yes rfl rfl ?_
      refine wr_y rfl (y_move rfl) ?_
      refine wr_yes rfl rfl ?_
      refine wr_y rfl (y_len Try.underlying22 rfl) ?_
      refine wr_yes rfl rfl ?_
      refine wr_y rfl (y_gt rfl rfl) ?_
      refine wr_y rfl (y_pickF rfl rfl) ?_
      refine wr_nil ?_
      exact ⟨(Sub.cons rfl (Sub.cons rfl (Sub.cons rfl (Sub.to rfl (mb (by first | omega | exact ⟨fun h => ⟨(by assumption), h⟩, fun h => h.2⟩ | simp [*])) Sub.nil)))), fun _ h => h⟩
  refine wr_y rfl (y_move rfl) ?_
  refine wr_mid 7 [(0, .slice A_s s.length c_s), (1, .int .i64 k), (2, .slice A_l l.length c_l), (26, .bool (decide (((120 < ((s.length : Nat) : Int)) ∨ (120 < ((l.length : Nat) : Int))) ∨ ((5000 < k) ∧ (k ≤ 1048576)))))] [] ?_ ?_
  ·
    refine wr_case 19 rfl (fun hc2 => ?_) (fun hc2 => ?_)
    ·
      refine wr_no rfl rfl rfl rfl ?_
      refine wr_no rfl rfl rfl rfl ?_
      refine wr_no rfl rfl rfl rfl ?_
      refine wr_nou rfl rfl rfl ?_
      refine wr_nou rfl rfl rfl ?_
      refine wr_no rfl rfl rfl rfl ?_
      refine wr_y rfl (y_pickT rfl rfl) ?_
      refine wr_nil ?_
      exact ⟨(Sub.cons rfl (Sub.cons rfl (Sub.cons rfl (Sub.to rfl (mb_t (by first | omega | exact ⟨fun h => ⟨(by assumption), h⟩, fun h => h.2⟩ | simp [*])) Sub.nil)))), fun _ h => h⟩
    ·
      refine wr_yes rfl rfl ?_
      refine wr_y rfl (y_move rfl) ?_
      refine wr_yes rfl rfl ?_
      refine wr_y rfl (y_gt rfl rfl) ?_
      refine wr_yes rfl rfl ?_
      refine wr_y rfl (y_move rfl) ?_
      refine wr_mid 3 [(0, .slice A_s s.length c_s), (1, .int .i64 k), (2, .slice A_l l.length c_l), (19, .bool false), (25, .bool (decide ((5000 < k) ∧ (k ≤ 1048576))))] [] ?_ ?_
      ·
        refine wr_case 22 rfl (fun hc3 => ?_) (fun hc3 => ?_)
        ·
          refine wr_yes rfl rfl ?_
          refine wr_y rfl (y_move rfl) ?_
          refine wr_yes rfl rfl ?_
          refine wr_y rfl (y_le rfl rfl) ?_
          refine wr_yes rfl rfl ?_
          refine wr_y rfl (y_pickT rfl rfl) ?_
          refine wr_nil ?_
          exact ⟨(Sub.cons rfl (Sub.cons rfl (Sub.cons rfl (Sub.cons rfl (Sub.to rfl (mb (by first | omega | exact ⟨fun h => ⟨(by assumption), h⟩, fun h => h.2⟩ | simp [*])) Sub.nil))))), fun _ h => h⟩
        ·
          refine wr_no rfl rfl rfl rfl ?_
          refine wr_no rfl rfl rfl rfl ?_
          refine wr_yes rfl rfl ?_
          refine wr_y rfl (y_pickF rfl rfl) ?_
          refine wr_nil ?_
          exact ⟨(Sub.cons rfl (Sub.cons rfl (Sub.cons rfl (Sub.cons rfl (Sub.to rfl (mb_f (by first | omega | exact ⟨fun h => ⟨(by assumption), h⟩, fun h => h.2⟩ | simp [*])) Sub.nil))))), fun _ h => h⟩
      refine wr_y rfl (y_pickF rfl rfl) ?_
      refine wr_nil ?_
      exact ⟨(Sub.cons rfl (Sub.cons rfl (Sub.cons rfl (Sub.to rfl (mb (by first | omega | exact ⟨fun h => ⟨(by assumption), h⟩, fun h => h.2⟩ | simp [*])) Sub.nil)))), fun _ h => h⟩
  refine wr_nil ?_
  refine w_if rfl (fun hc4 => ?_) (fun hc4 => ?_)
  ·
    refine w_seq ?_
    refine w_reg ?_
    refine wr_y rfl (y_assign rfl) ?_
    refine wr_nil ?_
    refine w_ret ?_
    refine ⟨_, rfl, ?_⟩
    rfl
  ·
    refine w_skip ?_
    refine w_seq ?_
    refine w_reg ?_
    refine wr_y rfl (y_move rfl) ?_
    refine wr_y rfl (y_move rfl) ?_
    refine wr_y rfl (y_move rfl) ?_
    refine wr_a rfl (a_callF en27 rfl (Ct.quiet (fun w hw => sortNo2_ct ((h_s.c _) w hw) ((h_l.c _) w hw) (by first | assumption | omega | decide) (by first | assumption | omega | decide) (by omega) (by omega)))) ?_
    rintro _ _ ⟨rfl, rfl⟩
    refine wr_y rfl (y_move rfl) ?_
    refine wr_y rfl (y_extract rfl rfl) ?_
    refine wr_y rfl (y_extract rfl rfl) ?_
    refine wr_y rfl (y_assign rfl) ?_
    refine wr_y rfl (y_assign rfl) ?_
    refine wr_nil ?_
    refine w_seq ?_
    refine w_reg ?_
    refine wr_y rfl (y_move rfl) ?_
    refine wr_y rfl (y_move rfl) ?_
    refine wr_y rfl (y_move rfl) ?_
    refine wr_a rfl (a_callF en28 rfl (Ct.quiet (fun w hw => sort12No2_ct ((h_s.c _) w hw) ((h_l.c _) w hw) (by first | assumption | omega | decide) (by first | assumption | omega | decide) (by omega) (by omega)))) ?_
    rintro _ _ ⟨rfl, rfl⟩
    refine wr_y rfl (y_move rfl) ?_
    refine wr_y rfl (y_extract rfl rfl) ?_
    refine wr_y rfl (y_extract rfl rfl) ?_
    refine wr_y rfl (y_assign rfl) ?_
    refine wr_y rfl (y_assign rfl) ?_
    refine wr_nil ?_
    refine w_seq ?_
    refine w_reg ?_
    refine wr_y rfl (y_move rfl) ?_
    refine wr_y rfl (y_move rfl) ?_
    refine wr_a rfl (a_callF en21 rfl (Ct.quiet (fun w hw => ints4_ct ((rd_nil _) w hw) ((rd_nil _) w hw) (by decide)))) ?_
    rintro _ _ ⟨rfl, rfl⟩
    refine wr_setT 43 rfl (rfl) ?_
    refine wr_y rfl (y_move rfl) ?_
    refine wr_yes rfl rfl ?_
    refine wr_y rfl (y_move rfl) ?_
    refine wr_yes rfl rfl ?_
    refine wr_y rfl (y_move rfl) ?_
    refine wr_yes rfl rfl ?_
    refine wr_y rfl (Yl.t (y_eqB Try.underlying4 rfl rfl) (rfl)) ?_
    refine wr_y rfl (y_pickT rfl rfl) ?_
    refine wr_y rfl (y_move rfl) ?_
    refine wr_yes rfl rfl ?_
    refine wr_a rfl (a_callF en29 rfl (Ct.quiet (fun w hw => known12_ct))) ?_
    rintro _ _ ⟨rfl, rfl⟩
    refine wr_y rfl (y_pickT rfl rfl) ?_
    refine wr_y rfl (y_assign rfl) ?_
    refine wr_nil ?_
    refine w_ret ?_
    refine ⟨_, rfl, ?_⟩
    rfl

theorem induceSorts_ct {w : World} {A_s A_l : Option Addr} {n_s c_s n_l c_l : Nat} {s l : List Int} {k : Int} (h_s : Rd w A_s n_s c_s 1 (ints .i64 s)) (h_l : Rd w A_l n_l c_l 1 (ints .i64 l)) :
    Ct Try.prog 10 #[.slice A_s n_s c_s, .int .i64 k, .slice A_l n_l c_l] w.heap.size w [] (fun v R' => v = .bool true) := by
  by_cases hok : (0 ≤ k ∧ k ≤ 1048576) ∧ ∀ x ∈ s, 0 ≤ x ∧ x < k
  · by_cases hp : l.Perm (fstL s)
    · exact iSortsA_ct h_s h_l hok hp
    · exact iSortsC_ct h_s h_l hok hp
  · exact iSortsB_ct h_s h_l hok
theorem ind_facts {s l : List Int} {k : Int} (hk : 0 ≤ k) (hs : ∀ x ∈ s, 0 ≤ x ∧ x < k) (hp : l.Perm (fstL s)) : (indS s k l).length = s.length ∧ (indS s k l).Perm (iota s.length) ∧ (∀ q : Int, 0 ≤ q → q + 1 < s.length → rd s (rd (indS s k l) q) ≤ rd s (rd (indS s k l) (q + 1))) ∧ (l.Pairwise (ordE s) → (indS s k l).Pairwise (ordE s)) := by
  refine ⟨indS_len hk hs hp, ?_⟩
  rcases Nat.eq_zero_or_pos s.length with h | h
  · have e : s = [] := List.eq_nil_of_length_eq_zero h
    subst e
    rw [indS_nil hp]
    exact ⟨.refl _, fun q h0 h1 => by simp at h1; omega, fun _ => .nil⟩
  · exact indS_ok hk hs hp h
/-! whorl/whorllaw12.InduceAll -/
set_option maxRecDepth 100000 in
set_option maxHeartbeats 600000 in
theorem induceAll_ct {w : World} {A_s : Option Addr} {n_s c_s : Nat} {s : List Int} {k : Int} {A_b : Option Addr} {n_b c_b : Nat} {b : List Int} (h_s : Rd w A_s n_s c_s 1 (ints .i64 s)) (h_b : Rd w A_b n_b c_b 1 (ints .i64 b)) :
    Ct Try.prog 11 #[.slice A_s n_s c_s, .int .i64 k, .slice A_b n_b c_b] w.heap.size w [] (fun v R' => v = .bool true) := by
  obtain rfl := h_s.lenI
  obtain rfl := h_b.lenI
  refine fn1 Try.func11 rfl rfl rfl ?_
  have m_s := h_s.max
  have m_b := h_b.max
  refine w_seq ?_
  refine w_reg ?_
  refine wr_y rfl (y_assign rfl) ?_
  refine wr_nil ?_
  refine w_seq ?_
  refine w_seq ?_
  refine w_reg ?_
  refine wr_y rfl (y_move rfl) ?_
  refine wr_y rfl (y_move rfl) ?_
  refine wr_a rfl (a_callF en30 rfl (Ct.quiet (fun w hw => lawMay_ct ((h_s.c _) w hw)))) ?_
  rintro _ _ ⟨rfl, rfl⟩
  refine wr_y rfl (y_notD rfl) ?_
  refine wr_y rfl (y_move rfl) ?_
  refine wr_mid 4 [(0, .slice A_s s.length c_s), (1, .int .i64 k), (2, .slice A_b b.length c_b), (19, .bool (decide ((¬ (((s).length ≤ 120 ∧ 0 ≤ k ∧ k ≤ 2000) ∧ ∀ x ∈ s, 0 ≤ x ∧ x < k)) ∨ (100 < ((b.length : Nat) : Int)))))] [] ?_ ?_
  ·
    refine wr_case 15 rfl (fun hc1 => ?_) (fun hc1 => ?_)
    ·
      refine wr_no rfl rfl rfl rfl ?_
      refine wr_no rfl rfl rfl rfl ?_
      refine wr_no rfl rfl rfl rfl ?_
      refine wr_y rfl (y_pickT rfl rfl) ?_
      refine wr_nil ?_
      exact ⟨(Sub.cons rfl (Sub.cons rfl (Sub.cons rfl (Sub.to rfl (mb_t (by first | omega | exact ⟨fun h => ⟨(by assumption), h⟩, fun h => h.2⟩ | simp [*])) Sub.nil)))), fun _ h => h⟩
    ·
      refine wr_yes rfl rfl ?_
      refine wr_y rfl (y_move rfl) ?_
      refine wr_yes rfl rfl ?_
      refine wr_y rfl (y_len Try.underlying22 rfl) ?_
      refine wr_yes rfl rfl ?_
      refine wr_y rfl (y_gt rfl rfl) ?_
      refine wr_y rfl (y_pickF rfl rfl) ?_
      refine wr_nil ?_
      exact ⟨(Sub.cons rfl (Sub.cons rfl (Sub.cons rfl (Sub.to rfl (mb (by first | omega | exact ⟨fun h => ⟨(by assumption), h⟩, fun h => h.2⟩ | simp [*])) Sub.nil)))), fun _ h => h⟩
  refine wr_nil ?_
  refine w_if rfl (fun hc2 => ?_) (fun hc2 => ?_)
  ·
    refine w_seq ?_
    refine w_reg ?_
    refine wr_y rfl (y_assign rfl) ?_
    refine wr_nil ?_
    refine w_ret ?_
    refine ⟨_, rfl, ?_⟩
    rfl
  ·
    have hm : (s.length ≤ 120 ∧ 0 ≤ k ∧ k ≤ 2000) ∧ ∀ x ∈ s, 0 ≤ x ∧ x < k := Decidable.byContradiction fun h => hc2 (.inl h)
    have hok : (0 ≤ k ∧ k ≤ 1048576) ∧ ∀ x ∈ s, 0 ≤ x ∧ x < k := ⟨⟨by omega, by omega⟩, hm.2⟩
    refine w_skip ?_
    refine w_seq ?_
    refine w_reg ?_
    refine wr_y rfl (y_move rfl) ?_
    refine wr_a rfl (a_callF en32 rfl (Ct.fresh (fun w hw => first11_ct ((h_s.c _) w hw) (by omega)))) ?_
    rintro _ _ ⟨_, rfl, A_1, c_2, rfl, rfl⟩
    refine wr_y rfl (y_move rfl) ?_
    refine wr_a rfl (a_callF en31 rfl (Ct.fresh (fun w hw => turned_ct ((rdr 0 rfl) w hw) ((h_b.c _) w hw) (by have := fstL_len (s := s); omega)))) ?_
    rintro _ _ ⟨_, rfl, A_4, c_5, t_6, rfl, hp_t_6, rfl⟩
    refine wr_y rfl (y_assign rfl) ?_
    refine wr_nil ?_
    refine w_seq ?_
    refine w_reg ?_
    refine wr_y rfl (y_move rfl) ?_
    refine wr_y rfl (y_move rfl) ?_
    refine wr_y rfl (y_move rfl) ?_
    refine wr_a rfl (a_callF en27 rfl (Ct.fresh (fun w hw => sort_ct ((h_s.c _) w hw) ((rdr 0 rfl) w hw) hok hp_t_6 (by omega)))) ?_
    rintro _ _ ⟨_, rfl, A_8, c_9, rfl, rfl⟩
    refine wr_y rfl (y_move rfl) ?_
    refine wr_y rfl (y_extract rfl rfl) ?_
    refine wr_y rfl (y_extract rfl rfl) ?_
    refine wr_y rfl (y_assign rfl) ?_
    refine wr_y rfl (y_assign rfl) ?_
    refine wr_nil ?_
    refine w_seq ?_
    refine w_seq ?_
    refine w_reg ?_
    refine wr_y rfl (y_move rfl) ?_
    refine wr_y rfl (y_not rfl) ?_
    refine wr_y rfl (y_move rfl) ?_
    refine wr_yes rfl rfl ?_
    refine wr_y rfl (y_move rfl) ?_
    refine wr_yes rfl rfl ?_
    refine wr_y rfl (y_len Try.underlying22 rfl) ?_
    refine wr_yes rfl rfl ?_
    refine wr_y rfl (y_move rfl) ?_
    refine wr_yes rfl rfl ?_
    refine wr_y rfl (y_len Try.underlying22 rfl) ?_
    refine wr_yes rfl rfl ?_
    refine wr_y rfl (Yl.f (y_ne rfl rfl) (by omega)) ?_
    refine wr_y rfl (y_pickF rfl rfl) ?_
    refine wr_y rfl (y_move rfl) ?_
    refine wr_yes rfl rfl ?_
    refine wr_y rfl (y_move rfl) ?_
    refine wr_yes rfl rfl ?_
    refine wr_a rfl (a_callF en33 rfl (Ct.quiet (fun w hw => is16_ct ((rdr 0 rfl) w hw) (by rw [(ind_facts hok.1.1 hok.2 hp_t_6).1]; exact (ind_facts hok.1.1 hok.2 hp_t_6).2.1) (by rw [(ind_facts hok.1.1 hok.2 hp_t_6).1]; omega)))) ?_
    rintro _ _ ⟨rfl, rfl⟩
    refine wr_yes rfl rfl ?_
    refine wr_y rfl (y_not rfl) ?_
    refine wr_y rfl (y_pickF rfl rfl) ?_
    refine wr_nil ?_
    refine w_false rfl ?_
    refine w_skip ?_
    refine w_seq ?_
    refine w_seq ?_
    refine w_reg ?_
    refine wr_y rfl (y_assign rfl) ?_
    refine wr_nil ?_
    refine w_block ?_
    refine w_loop1 (fun (i : Int) => [(0, .slice A_s s.length c_s), (8, .slice A_8 ((s).length) c_9), (10, .int .i64 i)]) (fun (i : Int) => [⟨3, 1, A_8, ((s).length), c_9, ints .i64 (indS s k t_6), false⟩, ⟨3, 1, A_4, (fstL s).length, c_5, ints .i64 t_6, false⟩, ⟨3, 1, A_1, (fstL s).length, c_2, ints .i64 (fstL s), false⟩]) (fun (i : Int) => (1 ≤ i)) (fun (i : Int) => (s.length - i).toNat) ?_ ?_
    ·
      exact ⟨1, (by omega), (Sub.cons rfl (Sub.cons rfl (Sub.cons rfl Sub.nil))), fun _ h => h⟩
    intro i hi0
    obtain ⟨hi1, hi2, hi3, _⟩ := ind_facts hok.1.1 hok.2 hp_t_6
    have hmem : ∀ q : Int, 0 ≤ q → q < s.length → 0 ≤ rd (indS s k t_6) q ∧ rd (indS s k t_6) q < s.length := fun q h0 h1 => mem_iota.1 (hi2.subset (rd_mem h0 (by omega)))
    refine w_seq ?_
    refine w_seq ?_
    refine w_reg ?_
    refine wr_y rfl (y_move rfl) ?_
    refine wr_y rfl (y_move rfl) ?_
    refine wr_y rfl (y_len Try.underlying22 rfl) ?_
    refine wr_y rfl (y_lt rfl rfl) ?_
    refine wr_nil ?_
    refine w_if rfl (fun hc3 => ?_) (fun hc3 => ?_)
    ·
      have hm1 := hmem (i - 1) (by omega) (by omega)
      have hm2 := hmem i (by omega) (by omega)
      refine w_skip ?_
      refine w_seq ?_
      refine w_block ?_
      refine w_seq ?_
      refine w_regd mixed ?_
      refine wd_y 0 rfl (by kernel_rfl) rfl (y_move rfl) ?_
      refine wd_y 1 rfl (by kernel_rfl) rfl (y_move rfl) ?_
      refine wd_y 2 rfl (by kernel_rfl) rfl (y_move rfl) ?_
      refine wd_y 3 rfl (by kernel_rfl) rfl (y_subI rfl rfl (by omega)) ?_
      refine wd_y 4 rfl (by kernel_rfl) rfl (y_index1 Try.underlying22 sz3 rfl rfl (rdr 0 rfl) (by omega) (by omega)) ?_
      refine wd_y 5 rfl (by kernel_rfl) rfl (y_ldI Try.underlying3 rfl rfl (rdr 0 rfl) (by omega) (by omega)) ?_
      refine wd_y 6 rfl (by kernel_rfl) rfl (y_index1 Try.underlying22 sz3 rfl rfl (h_s.c _) (by omega) (by omega)) ?_
      refine wd_y 7 rfl (by kernel_rfl) rfl (y_ldI Try.underlying3 rfl rfl (h_s.c _) (by omega) (by omega)) ?_
      refine wd_y 8 rfl (by kernel_rfl) rfl (y_move rfl) ?_
      refine wd_y 9 rfl (by kernel_rfl) rfl (y_move rfl) ?_
      refine wd_y 10 rfl (by kernel_rfl) rfl (y_move rfl) ?_
      refine wd_y 11 rfl (by kernel_rfl) rfl (y_index1 Try.underlying22 sz3 rfl rfl (rdr 0 rfl) (by omega) (by omega)) ?_
      refine wd_y 12 rfl (by kernel_rfl) rfl (y_ldI Try.underlying3 rfl rfl (rdr 0 rfl) (by omega) (by omega)) ?_
      refine wd_y 13 rfl (by kernel_rfl) rfl (y_index1 Try.underlying22 sz3 rfl rfl (h_s.c _) (by omega) (by omega)) ?_
      refine wd_y 14 rfl (by kernel_rfl) rfl (y_ldI Try.underlying3 rfl rfl (h_s.c _) (by omega) (by omega)) ?_
      refine wd_y 15 rfl (by kernel_rfl) rfl (Yl.f (y_gt rfl rfl) (by have := hi3 (i - 1) (by omega) (by omega); rw [show i - 1 + 1 = i by omega] at this; omega)) ?_
      refine wd_nil (by kernel_rfl) ?_
      refine w_false rfl ?_
      refine w_skip ?_
      refine w_reg ?_
      refine wr_y rfl (y_move rfl) ?_
      refine wr_y rfl (y_addI rfl rfl (by omega)) ?_
      refine wr_y rfl (y_assign rfl) ?_
      refine wr_nil ?_
      exact ⟨i + 1, (by omega), (by omega), (Sub.cons rfl (Sub.cons rfl (Sub.cons rfl Sub.nil))), fun _ h => h⟩
    ·
      refine w_exit ?_
      refine w_seq ?_
      refine w_reg ?_
      refine wr_a rfl (a_callF en29 rfl (Ct.quiet (fun w hw => known12_ct))) ?_
      rintro _ _ ⟨rfl, rfl⟩
      refine wr_y rfl (y_assign rfl) ?_
      refine wr_nil ?_
      refine w_retR (R1 := []) (fun _ h => h.sel [] (by decide) rfl) ?_
      refine ⟨_, rfl, ?_⟩
      rfl

theorem flt_step {b : List Int} {f : List Int} {i : Int} (h0 : 0 ≤ i) (hi : i < b.length) : ((b.take (i + 1).toNat).filter fun x => f.contains x) = ((b.take i.toNat).filter fun x => f.contains x) ++ if rd b i ∈ f then [rd b i] else [] := by
  rw [take_rd h0 hi, List.filter_append]
  congr 1
  by_cases h : rd b i ∈ f
  · rw [if_pos h, List.filter_cons_of_pos (by simpa using h)]; rfl
  · rw [if_neg h, List.filter_cons_of_neg (by simpa using h)]; rfl
theorem one_step {f : List Int} {x j : Int} (hn : f.Nodup) (j0 : 0 ≤ j) (hj : j < f.length) : (if x ∈ f.take (j + 1).toNat then [x] else []) = (if x ∈ f.take j.toNat then [x] else []) ++ if rd f j = x then [rd f j] else [] := by
  rw [take_rd j0 hj]
  have hno : rd f j ∉ f.take j.toNat := by
    intro h
    obtain ⟨q, hq, e⟩ := List.mem_iff_getElem.1 h
    rw [List.length_take] at hq
    have := rd_inj hn (i := (q : Int)) (j := j) (by omega) (by omega) j0 hj (by rw [rd_getI (by omega) (by omega), ← e, List.getElem_take]; congr 1)
    omega
  by_cases e : rd f j = x
  · subst e
    rw [if_pos (by simp), if_neg hno, if_pos rfl]
    rfl
  · rw [if_neg e, List.append_nil]
    have : x ∈ f.take j.toNat ++ [rd f j] ↔ x ∈ f.take j.toNat := by
      rw [List.mem_append, List.mem_singleton]
      exact ⟨fun h => h.resolve_right fun h => e h.symm, .inl⟩
    by_cases h : x ∈ f.take j.toNat
    · rw [if_pos h, if_pos (this.2 h)]
    · rw [if_neg h, if_neg fun h' => h (this.1 h')]
theorem flt_perm {s b : List Int} (hp : b.Perm (iota s.length)) : (b.filter fun x => (fstL s).contains x).Perm (fstL s) := by
  refine (hp.filter _).trans ?_
  unfold fstL
  refine .of_eq (List.filter_congr fun x hx => ?_)
  have h1 := @mem_fstL s x
  unfold fstL at h1
  rw [Bool.eq_iff_iff, List.contains_iff_mem, h1]
  exact ⟨fun h => h.2, fun h => ⟨mem_iota.1 hx, h⟩⟩
/-! whorl/whorllaw12.InduceRight -/
set_option maxRecDepth 100000 in
set_option maxHeartbeats 1000000 in
theorem induceRight_ct {w : World} {A_s : Option Addr} {n_s c_s : Nat} {s : List Int} {k : Int} (h_s : Rd w A_s n_s c_s 1 (ints .i64 s)) :
    Ct Try.prog 12 #[.slice A_s n_s c_s, .int .i64 k] w.heap.size w [] (fun v R' => v = .bool true) := by
  obtain rfl := h_s.lenI
  refine fn1 Try.func12 rfl rfl rfl ?_
  have m_s := h_s.max
  refine w_seq ?_
  refine w_reg ?_
  refine wr_y rfl (y_assign rfl) ?_
  refine wr_nil ?_
  refine w_seq ?_
  refine w_seq ?_
  refine w_reg ?_
  refine wr_y rfl (y_move rfl) ?_
  refine wr_y rfl (y_move rfl) ?_
  refine wr_a rfl (a_callF en30 rfl (Ct.quiet (fun w hw => lawMay_ct ((h_s.c _) w hw)))) ?_
  rintro _ _ ⟨rfl, rfl⟩
  refine wr_y rfl (y_notD rfl) ?_
  refine wr_nil ?_
  refine w_if rfl (fun hc1 => ?_) (fun hc1 => ?_)
  ·
    refine w_seq ?_
    refine w_reg ?_
    refine wr_y rfl (y_assign rfl) ?_
    refine wr_nil ?_
    refine w_ret ?_
    refine ⟨_, rfl, ?_⟩
    rfl
  ·
    have hm : (s.length ≤ 120 ∧ 0 ≤ k ∧ k ≤ 2000) ∧ ∀ x ∈ s, 0 ≤ x ∧ x < k := Decidable.byContradiction fun h => hc1 h
    have hok : (0 ≤ k ∧ k ≤ 1048576) ∧ ∀ x ∈ s, 0 ≤ x ∧ x < k := ⟨⟨by omega, by omega⟩, hm.2⟩
    have hfn := fstL_nodup s
    have hfl := fstL_len (s := s)
    refine w_skip ?_
    refine w_seq ?_
    refine w_reg ?_
    refine wr_y rfl (y_move rfl) ?_
    refine wr_a rfl (a_callF en34 rfl (Ct.fresh (fun w hw => order13_ct ((h_s.c _) w hw) (by omega)))) ?_
    rintro _ _ ⟨_, rfl, b1, A_1, c_2, rfl, hp_b1, hs_b1, rfl⟩
    refine wr_y rfl (y_assign rfl) ?_
    refine wr_nil ?_
    refine w_seq ?_
    refine w_reg ?_
    refine wr_sub (R1 := [⟨3, 1, none, 0, 0, ints .i64 ([]), false⟩, ⟨3, 1, A_1, s.length, c_2, ints .i64 b1, false⟩]) (Sub.refl _) (fun _ h => h.nil 3 1) ?_
    refine wr_y rfl (y_assign rfl) ?_
    refine wr_nil ?_
    refine w_seq ?_
    refine w_reg ?_
    refine wr_y rfl (y_move rfl) ?_
    refine wr_a rfl (a_callF en32 rfl (Ct.fresh (fun w hw => first11_ct ((h_s.c _) w hw) (by omega)))) ?_
    rintro _ _ ⟨_, rfl, A_4, c_5, rfl, rfl⟩
    refine wr_y rfl (y_assign rfl) ?_
    refine wr_nil ?_
    refine w_seq ?_
    refine w_seq ?_
    refine w_reg ?_
    refine wr_y rfl (y_assign rfl) ?_
    refine wr_nil ?_
    refine w_block ?_
    refine w_loop5 (fun (A1 : Option Addr) (n1 : Nat) (c1 : Nat) (acc : List Int) (i : Int) => [(0, .slice A_s s.length c_s), (1, .int .i64 k), (5, .slice A_1 s.length c_2), (6, .slice A1 n1 c1), (7, .slice A_4 ((fstL s).length) c_5), (8, .int .i64 i)]) (fun (A1 : Option Addr) (n1 : Nat) (c1 : Nat) (acc : List Int) (i : Int) => [⟨3, 1, A_4, (fstL s).length, c_5, ints .i64 (fstL s), false⟩, ⟨3, 1, A1, n1, c1, ints .i64 acc, false⟩, ⟨3, 1, A_1, s.length, c_2, ints .i64 b1, false⟩]) (fun (A1 : Option Addr) (n1 : Nat) (c1 : Nat) (acc : List Int) (i : Int) => (0 ≤ i) ∧ (i ≤ s.length) ∧ (n1 = acc.length) ∧ (acc = (b1.take i.toNat).filter fun x => (fstL s).contains x)) (fun (A1 : Option Addr) (n1 : Nat) (c1 : Nat) (acc : List Int) (i : Int) => (s.length - i).toNat) ?_ ?_
    ·
      exact ⟨none, 0, 0, [], 0, ⟨(by omega), (by omega), (rfl), (rfl)⟩, (Sub.cons rfl (Sub.cons rfl (Sub.cons rfl (Sub.cons rfl (Sub.cons rfl (Sub.cons rfl Sub.nil)))))), fun _ h => h⟩
    intro A1 n1 c1 acc i ⟨hi0, hi1, hn1, hacc⟩
    have hbl : b1.length = s.length := by rw [hp_b1.length_eq, iota_len]
    refine w_seq ?_
    refine w_seq ?_
    refine w_reg ?_
    refine wr_y rfl (y_move rfl) ?_
    refine wr_y rfl (y_move rfl) ?_
    refine wr_y rfl (y_len Try.underlying22 rfl) ?_
    refine wr_y rfl (y_lt rfl rfl) ?_
    refine wr_nil ?_
    refine w_if rfl (fun hc2 => ?_) (fun hc2 => ?_)
    ·
      refine w_skip ?_
      refine w_seq ?_
      refine w_block ?_
      refine w_seq ?_
      refine w_reg ?_
      refine wr_y rfl (y_assign rfl) ?_
      refine wr_nil ?_
      refine w_block ?_
      refine w_loop5 (fun (A1 : Option Addr) (n1 : Nat) (c1 : Nat) (acc2 : List Int) (j : Int) => [(0, .slice A_s s.length c_s), (1, .int .i64 k), (5, .slice A_1 s.length c_2), (6, .slice A1 n1 c1), (7, .slice A_4 ((fstL s).length) c_5), (8, .int .i64 i), (9, .int .i64 j)]) (fun (A1 : Option Addr) (n1 : Nat) (c1 : Nat) (acc2 : List Int) (j : Int) => [⟨3, 1, A_4, (fstL s).length, c_5, ints .i64 (fstL s), false⟩, ⟨3, 1, A1, n1, c1, ints .i64 acc2, false⟩, ⟨3, 1, A_1, s.length, c_2, ints .i64 b1, false⟩]) (fun (A1 : Option Addr) (n1 : Nat) (c1 : Nat) (acc2 : List Int) (j : Int) => (0 ≤ j) ∧ (j ≤ (fstL s).length) ∧ (n1 = acc2.length) ∧ (acc2 = ((b1.take i.toNat).filter fun x => (fstL s).contains x) ++ if rd b1 i ∈ (fstL s).take j.toNat then [rd b1 i] else [])) (fun (A1 : Option Addr) (n1 : Nat) (c1 : Nat) (acc2 : List Int) (j : Int) => ((fstL s).length - j).toNat) ?_ ?_
      ·
        exact ⟨A1, n1, c1, acc, 0, ⟨(by omega), (by omega), (hn1), (by rw [hacc]; simp)⟩, (Sub.cons rfl (Sub.cons rfl (Sub.cons rfl (Sub.cons rfl (Sub.cons rfl (Sub.cons rfl (Sub.cons rfl Sub.nil))))))), fun _ h => h⟩
      intro A1 n1 c1 acc2 j ⟨hj0, hj1, hn1, hac2⟩
      have hal : acc2.length ≤ s.length + 1 := by
        have h1 := List.length_filter_le (fun x => (fstL s).contains x) (b1.take i.toNat)
        rw [List.length_take] at h1
        rw [hac2, List.length_append]
        split <;> simp only [List.length_cons, List.length_nil] <;> omega
      refine w_seq ?_
      refine w_seq ?_
      refine w_reg ?_
      refine wr_y rfl (y_move rfl) ?_
      refine wr_y rfl (y_move rfl) ?_
      refine wr_y rfl (y_len Try.underlying22 rfl) ?_
      refine wr_y rfl (y_lt rfl rfl) ?_
      refine wr_nil ?_
      refine w_if rfl (fun hc3 => ?_) (fun hc3 => ?_)
      ·
        refine w_skip ?_
        refine w_seq ?_
        refine w_block ?_
        refine w_seq ?_
        refine w_regd mixed ?_
        refine wd_y 0 rfl (by kernel_rfl) rfl (y_move rfl) ?_
        refine wd_y 1 rfl (by kernel_rfl) rfl (y_move rfl) ?_
        refine wd_y 2 rfl (by kernel_rfl) rfl (y_index1 Try.underlying22 sz3 rfl rfl (rdr 0 rfl) (by omega) (by omega)) ?_
        refine wd_y 3 rfl (by kernel_rfl) rfl (y_ldI Try.underlying3 rfl rfl (rdr 0 rfl) (by omega) (by omega)) ?_
        refine wd_y 4 rfl (by kernel_rfl) rfl (y_move rfl) ?_
        refine wd_y 5 rfl (by kernel_rfl) rfl (y_move rfl) ?_
        refine wd_y 6 rfl (by kernel_rfl) rfl (y_index1 Try.underlying22 sz3 rfl rfl (rdr 2 rfl) (by omega) (by omega)) ?_
        refine wd_y 7 rfl (by kernel_rfl) rfl (y_ldI Try.underlying3 rfl rfl (rdr 2 rfl) (by omega) (by omega)) ?_
        refine wd_y 8 rfl (by kernel_rfl) rfl (y_eq rfl rfl) ?_
        refine wd_nil (by kernel_rfl) ?_
        refine w_if rfl (fun hc4 => ?_) (fun hc4 => ?_)
        ·
          refine w_reg ?_
          refine wr_y rfl (y_move rfl) ?_
          refine wr_y rfl (y_move rfl) ?_
          refine wr_y rfl (y_move rfl) ?_
          refine wr_y rfl (y_index1 Try.underlying22 sz3 rfl rfl (rdr 0 rfl) (by omega) (by omega)) ?_
          refine wr_y rfl (y_ldI Try.underlying3 rfl rfl (rdr 0 rfl) (by omega) (by omega)) ?_
          refine wr_a rfl (a_litI .i64 [rd (fstL s) j] Try.underlying22 zs3 rfl rfl rfl) ?_
          rintro _ _ ⟨g_8, rfl, rfl⟩
          refine wr_a rfl (a_appendI 2 rfl Try.underlying22 zb3 rfl rfl rfl (rdr 0 rfl) (by omega)) ?_
          rintro _ _ ⟨A_9, c_10, rfl, rfl⟩
          refine wr_rows (R1 := [⟨3, 1, (some ⟨g_8, 0, none⟩), 1, 1, ints .i64 ([rd (fstL s) j]), false⟩, ⟨3, 1, A_4, (fstL s).length, c_5, ints .i64 (fstL s), false⟩, ⟨3, 1, A_9, (n1 + 1), c_10, ints .i64 (acc2 ++ ([rd (fstL s) j])), false⟩, ⟨3, 1, A_1, s.length, c_2, ints .i64 b1, false⟩]) rfl ?_
          refine wr_as (v := .slice A_9 (n1 + 1) c_10) rfl ?_
          refine wr_y rfl (y_assign rfl) ?_
          refine wr_nil ?_
          refine w_reg ?_
          refine wr_y rfl (y_move rfl) ?_
          refine wr_y rfl (y_addI rfl rfl (by omega)) ?_
          refine wr_y rfl (y_assign rfl) ?_
          refine wr_nil ?_
          exact ⟨A_9, n1 + 1, c_10, acc2 ++ ([rd (fstL s) j]), j + 1, ⟨(by omega), (by omega), (by rw [List.length_append, hn1]; rfl), (by rw [one_step hfn hj0 (by omega), ← List.append_assoc, ← hac2, if_pos hc4])⟩, (by omega), (Sub.cons rfl (Sub.cons rfl (Sub.cons rfl (Sub.cons rfl (Sub.cons rfl (Sub.cons rfl (Sub.cons rfl Sub.nil))))))), fun _ h => h.sel [1, 2, 3] (by decide) rfl⟩
        ·
          refine w_skip ?_
          refine w_reg ?_
          refine wr_y rfl (y_move rfl) ?_
          refine wr_y rfl (y_addI rfl rfl (by omega)) ?_
          refine wr_y rfl (y_assign rfl) ?_
          refine wr_nil ?_
          exact ⟨A1, n1, c1, acc2, j + 1, ⟨(by omega), (by omega), (hn1), (by rw [one_step hfn hj0 (by omega), ← List.append_assoc, ← hac2, if_neg hc4, List.append_nil])⟩, (by omega), (Sub.cons rfl (Sub.cons rfl (Sub.cons rfl (Sub.cons rfl (Sub.cons rfl (Sub.cons rfl (Sub.cons rfl Sub.nil))))))), fun _ h => h⟩
      ·
        refine w_exit ?_
        refine w_reg ?_
        refine wr_y rfl (y_move rfl) ?_
        refine wr_y rfl (y_addI rfl rfl (by omega)) ?_
        refine wr_y rfl (y_assign rfl) ?_
        refine wr_nil ?_
        exact ⟨A1, n1, c1, acc2, i + 1, ⟨(by omega), (by omega), (hn1), (by rw [flt_step hi0 (by omega), hac2, List.take_of_length_le (l := fstL s) (i := j.toNat) (by omega)])⟩, (by omega), (Sub.cons rfl (Sub.cons rfl (Sub.cons rfl (Sub.cons rfl (Sub.cons rfl (Sub.cons rfl Sub.nil)))))), fun _ h => h⟩
    ·
      have hacc2 : acc = b1.filter fun x => (fstL s).contains x := by rw [hacc, List.take_of_length_le (by omega)]
      have hap : acc.Perm (fstL s) := by rw [hacc2]; exact flt_perm hp_b1
      have hap2 : acc.Pairwise (ordE s) := by rw [hacc2]; exact hs_b1.sublist List.filter_sublist
      have hapl := fst_len_le hap
      refine w_exit ?_
      refine w_seq ?_
      refine w_reg ?_
      refine wr_y rfl (y_move rfl) ?_
      refine wr_y rfl (y_move rfl) ?_
      refine wr_y rfl (y_move rfl) ?_
      refine wr_a rfl (a_callF en27 rfl (Ct.fresh (fun w hw => sort_ct ((h_s.c _) w hw) ((rdr 1 rfl) w hw) hok hap (by omega)))) ?_
      rintro _ _ ⟨_, rfl, A_11, c_12, rfl, rfl⟩
      refine wr_y rfl (y_move rfl) ?_
      refine wr_y rfl (y_extract rfl rfl) ?_
      refine wr_y rfl (y_extract rfl rfl) ?_
      refine wr_y rfl (y_assign rfl) ?_
      refine wr_y rfl (y_assign rfl) ?_
      refine wr_nil ?_
      refine w_seq ?_
      refine w_reg ?_
      refine wr_y rfl (y_move rfl) ?_
      refine wr_y rfl (y_move rfl) ?_
      refine wr_yes rfl rfl ?_
      refine wr_y rfl (y_move rfl) ?_
      refine wr_yes rfl rfl ?_
      refine wr_y rfl (y_move rfl) ?_
      refine wr_yes rfl rfl ?_
      refine wr_a rfl (a_callF en21 rfl (Ct.quiet (fun w hw => ints4_ct ((rdr 0 rfl) w hw) ((rdr 3 rfl) w hw) (by rw [(ind_facts hok.1.1 hok.2 hap).1]; omega)))) ?_
      rintro _ _ ⟨rfl, rfl⟩
      refine wr_setT 59 rfl (one_orderE (ind_facts hok.1.1 hok.2 hap).2.1 hp_b1 ((ind_facts hok.1.1 hok.2 hap).2.2.2 hap2) hs_b1) ?_
      refine wr_y rfl (y_pickT rfl rfl) ?_
      refine wr_y rfl (y_move rfl) ?_
      refine wr_yes rfl rfl ?_
      refine wr_a rfl (a_callF en29 rfl (Ct.quiet (fun w hw => known12_ct))) ?_
      rintro _ _ ⟨rfl, rfl⟩
      refine wr_y rfl (y_pickT rfl rfl) ?_
      refine wr_y rfl (y_assign rfl) ?_
      refine wr_nil ?_
      refine w_retR (R1 := []) (fun _ h => h.sel [] (by decide) rfl) ?_
      refine ⟨_, rfl, ?_⟩
      rfl

theorem not_more {s l : List Int} (h : l.length = (fstL s).length + 1) : ¬ l.Perm (fstL s) := fun hp => by have := hp.length_eq; omega
/-! whorl/whorllaw12.InduceOwn -/
set_option maxRecDepth 100000 in
set_option maxHeartbeats 1000000 in
theorem induceOwn_ct {w : World} {A_s : Option Addr} {n_s c_s : Nat} {s : List Int} {k : Int} (h_s : Rd w A_s n_s c_s 1 (ints .i64 s)) :
    Ct Try.prog 13 #[.slice A_s n_s c_s, .int .i64 k] w.heap.size w [] (fun v R' => v = .bool true) := by
  obtain rfl := h_s.lenI
  refine fn1 Try.func13 rfl rfl rfl ?_
  have m_s := h_s.max
  refine w_seq ?_
  refine w_reg ?_
  refine wr_y rfl (y_assign rfl) ?_
  refine wr_nil ?_
  refine w_seq ?_
  refine w_seq ?_
  refine w_reg ?_
  refine wr_y rfl (y_move rfl) ?_
  refine wr_y rfl (y_move rfl) ?_
  refine wr_a rfl (a_callF en30 rfl (Ct.quiet (fun w hw => lawMay_ct ((h_s.c _) w hw)))) ?_
  rintro _ _ ⟨rfl, rfl⟩
  refine wr_y rfl (y_notD rfl) ?_
  refine wr_nil ?_
  refine w_if rfl (fun hc1 => ?_) (fun hc1 => ?_)
  ·
    refine w_seq ?_
    refine w_reg ?_
    refine wr_y rfl (y_assign rfl) ?_
    refine wr_nil ?_
    refine w_ret ?_
    refine ⟨_, rfl, ?_⟩
    rfl
  ·
    have hm : (s.length ≤ 120 ∧ 0 ≤ k ∧ k ≤ 2000) ∧ ∀ x ∈ s, 0 ≤ x ∧ x < k := Decidable.byContradiction fun h => hc1 h
    have hok : (0 ≤ k ∧ k ≤ 1048576) ∧ ∀ x ∈ s, 0 ≤ x ∧ x < k := ⟨⟨by omega, by omega⟩, hm.2⟩
    have hfl := fstL_len (s := s)
    refine w_skip ?_
    refine w_seq ?_
    refine w_reg ?_
    refine wr_y rfl (y_move rfl) ?_
    refine wr_a rfl (a_callF en32 rfl (Ct.fresh (fun w hw => first11_ct ((h_s.c _) w hw) (by omega)))) ?_
    rintro _ _ ⟨_, rfl, A_1, c_2, rfl, rfl⟩
    refine wr_y rfl (y_assign rfl) ?_
    refine wr_nil ?_
    refine w_seq ?_
    refine w_reg ?_
    refine wr_a rfl (a_litI .i64 [] Try.underlying22 zs3 rfl rfl rfl) ?_
    rintro _ _ ⟨g_5, rfl, rfl⟩
    refine wr_y rfl (y_move rfl) ?_
    refine wr_a rfl (a_appendI 0 rfl Try.underlying22 zb3 rfl rfl rfl (h_s.c _) (by omega)) ?_
    rintro _ _ ⟨A_6, c_7, rfl, rfl⟩
    refine wr_rows (R1 := [⟨3, 1, A_6, (0 + s.length), c_7, ints .i64 (([]) ++ s), false⟩, ⟨3, 1, A_1, (fstL s).length, c_2, ints .i64 (fstL s), false⟩]) rfl ?_
    refine wr_as (v := .slice A_6 (0 + s.length) c_7) rfl ?_
    refine wr_a rfl (a_litI .i64 [] Try.underlying22 zs3 rfl rfl rfl) ?_
    rintro _ _ ⟨g_9, rfl, rfl⟩
    refine wr_y rfl (y_move rfl) ?_
    refine wr_a rfl (a_appendI 0 rfl Try.underlying22 zb3 rfl rfl rfl (rdr 2 rfl) (by omega)) ?_
    rintro _ _ ⟨A_10, c_11, rfl, rfl⟩
    refine wr_rows (R1 := [⟨3, 1, A_10, (0 + ((fstL s).length)), c_11, ints .i64 (([]) ++ (fstL s)), false⟩, ⟨3, 1, A_6, (0 + s.length), c_7, ints .i64 (([]) ++ s), false⟩, ⟨3, 1, A_1, (fstL s).length, c_2, ints .i64 (fstL s), false⟩]) rfl ?_
    refine wr_as (v := .slice A_10 (0 + ((fstL s).length)) c_11) rfl ?_
    refine wr_y rfl (y_assign rfl) ?_
    refine wr_y rfl (y_assign rfl) ?_
    refine wr_nil ?_
    refine w_seq ?_
    refine w_reg ?_
    refine wr_y rfl (y_move rfl) ?_
    refine wr_y rfl (y_move rfl) ?_
    refine wr_y rfl (y_move rfl) ?_
    refine wr_a rfl (a_callF en27 rfl (Ct.fresh (fun w hw => sort_ct ((rdr 1 rfl) w hw) ((rdr 0 rfl) w hw) hok (.refl _) (by omega)))) ?_
    rintro _ _ ⟨_, rfl, A_12, c_13, rfl, rfl⟩
    refine wr_y rfl (y_move rfl) ?_
    refine wr_y rfl (y_extract rfl rfl) ?_
    refine wr_y rfl (y_extract rfl rfl) ?_
    refine wr_y rfl (y_assign rfl) ?_
    refine wr_y rfl (y_assign rfl) ?_
    refine wr_nil ?_
    refine w_seq ?_
    refine w_seq ?_
    refine w_reg ?_
    refine wr_y rfl (y_assign rfl) ?_
    refine wr_nil ?_
    refine w_block ?_
    refine w_loop1 (fun (i : Int) => [(0, .slice A_s s.length c_s), (1, .int .i64 k), (5, .slice A_1 ((fstL s).length) c_2), (6, .slice A_6 (0 + s.length) c_7), (7, .slice A_10 (0 + ((fstL s).length)) c_11), (9, .bool true), (10, .int .i64 i)]) (fun (i : Int) => [⟨3, 1, A_12, (((([]) ++ s)).length), c_13, ints .i64 (indS (([]) ++ s) k (([]) ++ (fstL s))), false⟩, ⟨3, 1, A_10, (0 + ((fstL s).length)), c_11, ints .i64 (([]) ++ (fstL s)), false⟩, ⟨3, 1, A_6, (0 + s.length), c_7, ints .i64 (([]) ++ s), false⟩, ⟨3, 1, A_1, (fstL s).length, c_2, ints .i64 (fstL s), false⟩]) (fun (i : Int) => (0 ≤ i)) (fun (i : Int) => (((s).length : Int) - i).toNat) ?_ ?_
    ·
      exact ⟨0, (by omega), (Sub.cons rfl (Sub.cons rfl (Sub.cons rfl (Sub.cons rfl (Sub.cons rfl (Sub.cons rfl (Sub.cons rfl Sub.nil))))))), fun _ h => h⟩
    intro i hi0
    refine w_seq ?_
    refine w_seq ?_
    refine w_reg ?_
    refine wr_y rfl (y_move rfl) ?_
    refine wr_y rfl (y_move rfl) ?_
    refine wr_y rfl (y_len Try.underlying22 rfl) ?_
    refine wr_y rfl (y_lt rfl rfl) ?_
    refine wr_nil ?_
    refine w_if rfl (fun hc2 => ?_) (fun hc2 => ?_)
    ·
      refine w_skip ?_
      refine w_seq ?_
      refine w_block ?_
      refine w_seq ?_
      refine w_regd mixed ?_
      refine wd_y 0 rfl (by kernel_rfl) rfl (y_move rfl) ?_
      refine wd_y 1 rfl (by kernel_rfl) rfl (y_move rfl) ?_
      refine wd_y 2 rfl (by kernel_rfl) rfl (y_index1 Try.underlying22 sz3 rfl rfl (rdr 2 rfl) (by omega) (by omega)) ?_
      refine wd_y 3 rfl (by kernel_rfl) rfl (y_ldI Try.underlying3 rfl rfl (rdr 2 rfl) (by omega) (by omega)) ?_
      refine wd_y 4 rfl (by kernel_rfl) rfl (y_move rfl) ?_
      refine wd_y 5 rfl (by kernel_rfl) rfl (y_move rfl) ?_
      refine wd_y 6 rfl (by kernel_rfl) rfl (y_index1 Try.underlying22 sz3 rfl rfl (h_s.c _) (by omega) (by omega)) ?_
      refine wd_y 7 rfl (by kernel_rfl) rfl (y_ldI Try.underlying3 rfl rfl (h_s.c _) (by omega) (by omega)) ?_
      refine wd_y 8 rfl (by kernel_rfl) rfl (Yl.f (y_ne rfl rfl) (fun h => h rfl)) ?_
      refine wd_nil (by kernel_rfl) ?_
      refine w_false rfl ?_
      refine w_skip ?_
      refine w_reg ?_
      refine wr_y rfl (y_move rfl) ?_
      refine wr_y rfl (y_addI rfl rfl (by omega)) ?_
      refine wr_y rfl (y_assign rfl) ?_
      refine wr_nil ?_
      exact ⟨i + 1, (by omega), (by omega), (Sub.cons rfl (Sub.cons rfl (Sub.cons rfl (Sub.cons rfl (Sub.cons rfl (Sub.cons rfl (Sub.cons rfl Sub.nil))))))), fun _ h => h⟩
    ·
      refine w_exit ?_
      refine w_seq ?_
      refine w_seq ?_
      refine w_reg ?_
      refine wr_y rfl (y_assign rfl) ?_
      refine wr_nil ?_
      refine w_block ?_
      refine w_loop1 (fun (j : Int) => [(0, .slice A_s s.length c_s), (1, .int .i64 k), (5, .slice A_1 ((fstL s).length) c_2), (7, .slice A_10 (0 + ((fstL s).length)) c_11), (9, .bool true), (11, .int .i64 j)]) (fun (j : Int) => [⟨3, 1, A_12, (((([]) ++ s)).length), c_13, ints .i64 (indS (([]) ++ s) k (([]) ++ (fstL s))), false⟩, ⟨3, 1, A_10, (0 + ((fstL s).length)), c_11, ints .i64 (([]) ++ (fstL s)), false⟩, ⟨3, 1, A_6, (0 + s.length), c_7, ints .i64 (([]) ++ s), false⟩, ⟨3, 1, A_1, (fstL s).length, c_2, ints .i64 (fstL s), false⟩]) (fun (j : Int) => (0 ≤ j)) (fun (j : Int) => (((fstL s).length : Int) - j).toNat) ?_ ?_
      ·
        exact ⟨0, (by omega), (Sub.cons rfl (Sub.cons rfl (Sub.cons rfl (Sub.cons rfl (Sub.cons rfl (Sub.cons rfl Sub.nil)))))), fun _ h => h⟩
      intro j hj0
      refine w_seq ?_
      refine w_seq ?_
      refine w_reg ?_
      refine wr_y rfl (y_move rfl) ?_
      refine wr_y rfl (y_move rfl) ?_
      refine wr_y rfl (y_len Try.underlying22 rfl) ?_
      refine wr_y rfl (y_lt rfl rfl) ?_
      refine wr_nil ?_
      refine w_if rfl (fun hc3 => ?_) (fun hc3 => ?_)
      ·
        refine w_skip ?_
        refine w_seq ?_
        refine w_block ?_
        refine w_seq ?_
        refine w_regd mixed ?_
        refine wd_y 0 rfl (by kernel_rfl) rfl (y_move rfl) ?_
        refine wd_y 1 rfl (by kernel_rfl) rfl (y_move rfl) ?_
        refine wd_y 2 rfl (by kernel_rfl) rfl (y_index1 Try.underlying22 sz3 rfl rfl (rdr 1 rfl) (by omega) (by omega)) ?_
        refine wd_y 3 rfl (by kernel_rfl) rfl (y_ldI Try.underlying3 rfl rfl (rdr 1 rfl) (by omega) (by omega)) ?_
        refine wd_y 4 rfl (by kernel_rfl) rfl (y_move rfl) ?_
        refine wd_y 5 rfl (by kernel_rfl) rfl (y_move rfl) ?_
        refine wd_y 6 rfl (by kernel_rfl) rfl (y_index1 Try.underlying22 sz3 rfl rfl (rdr 3 rfl) (by omega) (by omega)) ?_
        refine wd_y 7 rfl (by kernel_rfl) rfl (y_ldI Try.underlying3 rfl rfl (rdr 3 rfl) (by omega) (by omega)) ?_
        refine wd_y 8 rfl (by kernel_rfl) rfl (Yl.f (y_ne rfl rfl) (fun h => h rfl)) ?_
        refine wd_nil (by kernel_rfl) ?_
        refine w_false rfl ?_
        refine w_skip ?_
        refine w_reg ?_
        refine wr_y rfl (y_move rfl) ?_
        refine wr_y rfl (y_addI rfl rfl (by omega)) ?_
        refine wr_y rfl (y_assign rfl) ?_
        refine wr_nil ?_
        exact ⟨j + 1, (by omega), (by omega), (Sub.cons rfl (Sub.cons rfl (Sub.cons rfl (Sub.cons rfl (Sub.cons rfl (Sub.cons rfl Sub.nil)))))), fun _ h => h⟩
      ·
        refine w_exit ?_
        refine w_seq ?_
        refine w_reg ?_
        refine wr_y rfl (y_move rfl) ?_
        refine wr_y rfl (y_move rfl) ?_
        refine wr_a rfl (a_litI .i64 [] Try.underlying22 zs3 rfl rfl rfl) ?_
        rintro _ _ ⟨g_16, rfl, rfl⟩
        refine wr_y rfl (y_move rfl) ?_
        refine wr_a rfl (a_appendI 0 rfl Try.underlying22 zb3 rfl rfl rfl (rdr 4 rfl) (by omega)) ?_
        rintro _ _ ⟨A_17, c_18, rfl, rfl⟩
        refine wr_rows (R1 := [⟨3, 1, A_17, (0 + ((fstL s).length)), c_18, ints .i64 (([]) ++ (fstL s)), false⟩, ⟨3, 1, A_12, (((([]) ++ s)).length), c_13, ints .i64 (indS (([]) ++ s) k (([]) ++ (fstL s))), false⟩, ⟨3, 1, A_10, (0 + ((fstL s).length)), c_11, ints .i64 (([]) ++ (fstL s)), false⟩, ⟨3, 1, A_6, (0 + s.length), c_7, ints .i64 (([]) ++ s), false⟩, ⟨3, 1, A_1, (fstL s).length, c_2, ints .i64 (fstL s), false⟩]) rfl ?_
        refine wr_as (v := .slice A_17 (0 + ((fstL s).length)) c_18) rfl ?_
        refine wr_a rfl (a_litI .i64 [0] Try.underlying22 zs3 rfl rfl rfl) ?_
        rintro _ _ ⟨g_20, rfl, rfl⟩
        refine wr_a rfl (a_appendI 1 rfl Try.underlying22 zb3 rfl rfl rfl (rdr 0 rfl) (by omega)) ?_
        rintro _ _ ⟨A_21, c_22, rfl, rfl⟩
        refine wr_rows (R1 := [⟨3, 1, (some ⟨g_20, 0, none⟩), 1, 1, ints .i64 ([0]), false⟩, ⟨3, 1, A_21, ((0 + ((fstL s).length)) + 1), c_22, ints .i64 ((([]) ++ (fstL s)) ++ ([0])), false⟩, ⟨3, 1, A_12, (((([]) ++ s)).length), c_13, ints .i64 (indS (([]) ++ s) k (([]) ++ (fstL s))), false⟩, ⟨3, 1, A_10, (0 + ((fstL s).length)), c_11, ints .i64 (([]) ++ (fstL s)), false⟩, ⟨3, 1, A_6, (0 + s.length), c_7, ints .i64 (([]) ++ s), false⟩, ⟨3, 1, A_1, (fstL s).length, c_2, ints .i64 (fstL s), false⟩]) rfl ?_
        refine wr_as (v := .slice A_21 ((0 + ((fstL s).length)) + 1) c_22) rfl ?_
        refine wr_a rfl (a_callF en27 rfl (Ct.quiet (fun w hw => sortNo2_ct ((h_s.c _) w hw) ((rdr 1 rfl) w hw) hok (not_more (by simp)) (by omega) (by simp; omega)))) ?_
        rintro _ _ ⟨rfl, rfl⟩
        refine wr_y rfl (y_move rfl) ?_
        refine wr_y rfl (y_extract rfl rfl) ?_
        refine wr_y rfl (y_extract rfl rfl) ?_
        refine wr_y rfl (y_assign rfl) ?_
        refine wr_y rfl (y_assign rfl) ?_
        refine wr_nil ?_
        refine w_seq ?_
        refine w_reg ?_
        refine wr_y rfl (y_move rfl) ?_
        refine wr_y rfl (y_move rfl) ?_
        refine wr_yes rfl rfl ?_
        refine wr_y rfl (y_move rfl) ?_
        refine wr_yes rfl rfl ?_
        refine wr_y rfl (y_not rfl) ?_
        refine wr_y rfl (y_pickT rfl rfl) ?_
        refine wr_y rfl (y_move rfl) ?_
        refine wr_yes rfl rfl ?_
        refine wr_a rfl (a_callF en29 rfl (Ct.quiet (fun w hw => known12_ct))) ?_
        rintro _ _ ⟨rfl, rfl⟩
        refine wr_y rfl (y_pickT rfl rfl) ?_
        refine wr_y rfl (y_assign rfl) ?_
        refine wr_nil ?_
        refine w_retR (R1 := []) (fun _ h => h.sel [] (by decide) rfl) ?_
        refine ⟨_, rfl, ?_⟩
        rfl

end Go.Proofs.Ytlagmdccneompaa
