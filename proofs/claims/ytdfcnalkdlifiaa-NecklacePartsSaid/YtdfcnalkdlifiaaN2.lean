/- Walks of Go functions, printed by a program of our own. -/
import Derived.Test.YtdfcnalkdlifiaaN1
import Derived.Test.YtdfcnalkdlifiaaE27
import Derived.Test.YtdfcnalkdlifiaaQ15
import Derived.Test.YtdfcnalkdlifiaaF1
namespace Go.Proofs.Ytdfcnalkdlifiaa
open Go Go.Eng Go.Pure
set_option linter.unusedVariables false
theorem lrotK_lt (s : List Int) : ∀ n : Nat, 0 < n → lrotK s n < n
  | 1, _ => by
    have e : lrotK s 1 = 0 := by
      rw [lrotK, lrotK]
      split <;> rfl
    omega
  | n + 2, _ => by
    have ih := lrotK_lt s (n + 1) (by omega)
    rw [lrotK]
    split <;> omega
theorem lrotK_yes {u : List Int} {i k : Int} (i1 : 1 ≤ i) (hk : k = lrotK u i.toNat) (h : cmpL (turnS u i) (turnS u k) < 0) : i = lrotK u (i + 1).toNat := by
  rw [show (i + 1).toNat = i.toNat + 1 by omega, lrotK, if_pos (by rw [← hk, Int.toNat_of_nonneg (by omega)]; exact h)]
  omega
theorem lrotK_no {u : List Int} {i k : Int} (i1 : 1 ≤ i) (hk : k = lrotK u i.toNat) (h : ¬ cmpL (turnS u i) (turnS u k) < 0) : k = lrotK u (i + 1).toNat := by
  rw [show (i + 1).toNat = i.toNat + 1 by omega, lrotK, if_neg (by rw [← hk, Int.toNat_of_nonneg (by omega)]; exact h), hk]
/-! whorl/least.Of -/
set_option maxRecDepth 100000 in
theorem ofL_ct {w : World} {A_u : Option Addr} {n_u c_u : Nat} {u : List Int} (h_u : Rd w A_u n_u c_u 1 (ints .u8 u)) (bh_u : ByteL u) (hN : u.length ≤ 1000000) :
    Ct Try.prog 63 #[.slice A_u n_u c_u] w.heap.size w [] (fun v R' => ∃ A c, v = .slice A (lw u).length c ∧ R' = [⟨5, 1, A, (lw u).length, c, ints .u8 (lw u), false⟩]) := by
  obtain rfl := h_u.lenI
  refine fn1 Try.func63 rfl rfl rfl ?_
  have m_u := h_u.max
  have hlr := lrot_bd u
  have hfe : ([u.drop (lrot u).toNat, u.take (lrot u).toNat] : List (List Int)).flatten = lw u := by simp [lw, turnS]
  have hlw := lw_len u
  refine w_seq ?_
  refine w_reg ?_
  refine wr_y rfl (y_assign rfl) ?_
  refine wr_nil ?_
  refine w_seq ?_
  refine w_reg ?_
  refine wr_y rfl (y_move rfl) ?_
  refine wr_a rfl (a_callF en87 rfl (Ct.quiet (fun w hw => at6_ct ((h_u.c _) w hw) (by first | assumption | omega | decide)))) ?_
  rintro _ _ ⟨rfl, rfl⟩
  refine wr_y rfl (y_assign rfl) ?_
  refine wr_nil ?_
  refine w_seq ?_
  refine w_regd mixed ?_
  refine wd_y 0 rfl (by kernel_rfl) rfl (y_move rfl) ?_
  refine wd_y 1 rfl (by kernel_rfl) rfl (y_move rfl) ?_
  refine wd_y 2 rfl (by kernel_rfl) rfl (y_sliceFrom Try.underlying22 sz5 rfl rfl (by omega) (by omega)) ?_
  refine wd_y 3 rfl (by kernel_rfl) rfl (y_move rfl) ?_
  refine wd_y 4 rfl (by kernel_rfl) rfl (y_move rfl) ?_
  refine wd_y 5 rfl (by kernel_rfl) rfl (y_sliceTo Try.underlying22 sz5 rfl rfl (h_u.c _) (by omega) (by omega)) ?_
  have hsw : SlW .u8 w [.slice (cutA A_u (lrot u).toNat c_u 1) (u.length - (lrot u).toNat) (c_u - (lrot u).toNat), .slice A_u ((lrot u).toNat) c_u] [u.drop (lrot u).toNat, u.take (lrot u).toNat] := ((slw_none _ _).snoc (h_u.fromI (l := (lrot u).toNat) (by omega)) (fun x hx => wf_byte (bh_u x (List.mem_of_mem_drop hx))) (by rw [List.length_drop]; omega)).snoc (h_u.toI (by omega)) (fun x hx => wf_byte (bh_u x (List.mem_of_mem_take hx))) (by rw [List.length_take]; omega)
  refine wd_a 6 rfl (by kernel_rfl) rfl (a_lit [.slice (cutA A_u (lrot u).toNat c_u 1) (u.length - (lrot u).toNat) (c_u - (lrot u).toNat), .slice A_u ((lrot u).toNat) c_u] Try.underlying30 zs22 rfl rfl rfl rfl) ?_
  rintro _ _ ⟨g_2, rfl, rfl⟩
  refine ⟨.inr fun _ h => h.right (R' := [_]), ?_⟩
  refine wd_a 7 rfl (by kernel_rfl) rfl (a_callF en88 rfl (Ct.fresh (fun w hw => concatB_ct ((rdr 0 rfl) w hw) (hsw.c hw) (by rw [hfe]; exact ⟨by omega, by simp⟩)))) ?_
  rintro _ _ ⟨_, rfl, A_3, c_4, rfl, rfl⟩
  refine ⟨.inr fun _ h => h.right (R' := [_]), ?_⟩
  refine wd_y 8 rfl (by kernel_rfl) rfl (y_assign rfl) ?_
  refine wd_nil (by kernel_rfl) ?_
  refine w_retR (R1 := [⟨5, 1, A_3, ((([u.drop (lrot u).toNat, u.take (lrot u).toNat])).flatten).length, c_4, ints .u8 ((([u.drop (lrot u).toNat, u.take (lrot u).toNat])).flatten), false⟩]) (fun _ h => h.sel [0] (by decide) rfl) ?_
  refine ⟨_, rfl, ?_⟩
  rw [hfe]
  exact ⟨_, _, rfl, rfl⟩

/-! bytes.Clone -/
set_option maxRecDepth 100000 in
theorem cloneB_ct {w : World} {A_u : Option Addr} {n_u c_u : Nat} {u : List Int} (h_u : Rd w A_u n_u c_u 1 (ints .u8 u)) (hN : u.length ≤ 1000000) :
    Ct Try.prog 86 #[.slice A_u n_u c_u] w.heap.size w [] (fun v R' => ∃ A c, v = .slice A (u).length c ∧ R' = [⟨5, 1, A, (u).length, c, ints .u8 (u), false⟩]) := by
  obtain rfl := h_u.lenI
  refine fn1 Try.func86 rfl rfl rfl ?_
  have m_u := h_u.max
  refine w_seq ?_
  refine w_reg ?_
  refine wr_sub (R1 := [⟨5, 1, none, 0, 0, ints .u8 ([]), false⟩]) (Sub.refl _) (fun _ h => h.nil 5 1) ?_
  refine wr_y rfl (y_assign rfl) ?_
  refine wr_nil ?_
  refine w_seq ?_
  refine w_seq ?_
  refine w_reg ?_
  refine wr_y rfl (y_move rfl) ?_
  refine wr_y rfl (y_slNil Try.underlying22 rfl rfl) ?_
  refine wr_nil ?_
  refine w_cond rfl (fun hc1 => ?_) (fun hc1 => ?_)
  ·
    refine w_seq ?_
    refine w_reg ?_
    refine wr_y rfl (y_assign rfl) ?_
    refine wr_nil ?_
    refine w_retR (R1 := [⟨5, 1, none, 0, 0, ints .u8 ([]), false⟩]) (fun _ h => h.sel [0] (by decide) rfl) ?_
    refine ⟨_, rfl, ?_⟩
    obtain rfl := rd_isNone h_u hc1
    exact ⟨_, _, rfl, rfl⟩
  ·
    refine w_skip ?_
    refine w_seq ?_
    refine w_reg ?_
    refine wr_a rfl (a_litI .u8 [] Try.underlying22 zs5 rfl rfl rfl) ?_
    rintro _ _ ⟨g_2, rfl, rfl⟩
    refine wr_y rfl (y_move rfl) ?_
    refine wr_a rfl (a_appendI 0 rfl Try.underlying22 zb5 rfl rfl rfl (h_u.c _) (by omega)) ?_
    rintro _ _ ⟨A_3, c_4, rfl, rfl⟩
    refine wr_rows (R1 := [⟨5, 1, A_3, (0 + u.length), c_4, ints .u8 (([]) ++ u), false⟩, ⟨5, 1, none, 0, 0, ints .u8 ([]), false⟩]) rfl ?_
    refine wr_as (v := .slice A_3 (0 + u.length) c_4) rfl ?_
    refine wr_y rfl (y_assign rfl) ?_
    refine wr_nil ?_
    refine w_retR (R1 := [⟨5, 1, A_3, (0 + u.length), c_4, ints .u8 (([]) ++ u), false⟩]) (fun _ h => h.sel [0] (by decide) rfl) ?_
    refine ⟨_, rfl, ?_⟩
    simp only [List.nil_append, Nat.zero_add]
    exact ⟨_, _, rfl, rfl⟩

/-! bytes.Compare -/
set_option maxRecDepth 100000 in
theorem compareBB_ct {w : World} {A_u : Option Addr} {n_u c_u : Nat} {u : List Int} {A_t : Option Addr} {n_t c_t : Nat} {t : List Int} (h_u : Rd w A_u n_u c_u 1 (ints .u8 u)) (h_t : Rd w A_t n_t c_t 1 (ints .u8 t)) (bh_u : ByteL u) (bh_t : ByteL t) :
    Ct Try.prog 67 #[.slice A_u n_u c_u, .slice A_t n_t c_t] w.heap.size w [] (fun v R' => v = .int .i64 (cmpL u t)) := by
  obtain rfl := h_u.lenI
  obtain rfl := h_t.lenI
  refine fn1 Try.func67 rfl rfl rfl ?_
  have m_u := h_u.max
  have m_t := h_t.max
  refine w_seq ?_
  refine w_reg ?_
  refine wr_y rfl (y_assign rfl) ?_
  refine wr_nil ?_
  refine w_seq ?_
  refine w_reg ?_
  refine wr_y rfl (y_move rfl) ?_
  refine wr_y rfl (y_move rfl) ?_
  refine wr_a rfl (a_cmp Try.func91 (by kernel_rfl) (by kernel_rfl) (by kernel_rfl) (by kernel_rfl) rfl rfl (h_u.c _) (h_t.c _) bh_u bh_t) ?_
  rintro _ _ ⟨rfl, rfl⟩
  refine wr_y rfl (y_assign rfl) ?_
  refine wr_nil ?_
  refine w_ret ?_
  refine ⟨_, rfl, ?_⟩
  rfl

/-! whorl/whorlref4.Turns -/
set_option maxRecDepth 100000 in
theorem turns4_ct {w : World} {A_u : Option Addr} {n_u c_u : Nat} {u : List Int} {i : Int} {k : Int} (h_u : Rd w A_u n_u c_u 1 (ints .u8 u)) (hi : 0 ≤ i ∧ i < u.length) (hk : 0 ≤ k ∧ k < u.length) (hN : u.length ≤ 1000000) :
    Ct Try.prog 42 #[.slice A_u n_u c_u, .int .i64 i, .int .i64 k] w.heap.size w [] (fun v R' => v = .int .i64 (cmpL (turnS u i) (turnS u k))) := by
  obtain rfl := h_u.lenI
  refine fn1 Try.func42 rfl rfl rfl ?_
  have m_u := h_u.max
  refine w_seq ?_
  refine w_reg ?_
  refine wr_y rfl (y_assign rfl) ?_
  refine wr_nil ?_
  refine w_seq ?_
  refine w_seq ?_
  refine w_reg ?_
  refine wr_y rfl (y_move rfl) ?_
  refine wr_y rfl (Yl.f (y_lt rfl rfl) (by omega)) ?_
  refine wr_y rfl (y_move rfl) ?_
  refine wr_yes rfl rfl ?_
  refine wr_y rfl (y_move rfl) ?_
  refine wr_yes rfl rfl ?_
  refine wr_y rfl (y_move rfl) ?_
  refine wr_yes rfl rfl ?_
  refine wr_y rfl (y_len Try.underlying22 rfl) ?_
  refine wr_yes rfl rfl ?_
  refine wr_y rfl (Yl.f (y_ge rfl rfl) (by omega)) ?_
  refine wr_y rfl (y_pickF rfl rfl) ?_
  refine wr_y rfl (y_move rfl) ?_
  refine wr_yes rfl rfl ?_
  refine wr_y rfl (y_move rfl) ?_
  refine wr_yes rfl rfl ?_
  refine wr_y rfl (Yl.f (y_lt rfl rfl) (by omega)) ?_
  refine wr_y rfl (y_pickF rfl rfl) ?_
  refine wr_y rfl (y_move rfl) ?_
  refine wr_yes rfl rfl ?_
  refine wr_y rfl (y_move rfl) ?_
  refine wr_yes rfl rfl ?_
  refine wr_y rfl (y_move rfl) ?_
  refine wr_yes rfl rfl ?_
  refine wr_y rfl (y_len Try.underlying22 rfl) ?_
  refine wr_yes rfl rfl ?_
  refine wr_y rfl (Yl.f (y_ge rfl rfl) (by omega)) ?_
  refine wr_y rfl (y_pickF rfl rfl) ?_
  refine wr_nil ?_
  refine w_false rfl ?_
  refine w_skip ?_
  refine w_seq ?_
  refine w_reg ?_
  refine wr_y rfl (y_move rfl) ?_
  refine wr_y rfl (y_move rfl) ?_
  refine wr_a rfl (a_callF en28 rfl (Ct.fresh (fun w hw => turn4_ct ((h_u.c _) w hw) ⟨hi.1, by omega⟩ (by first | assumption | omega | decide)))) ?_
  rintro _ _ ⟨_, rfl, A_1, c_2, rfl, rfl⟩
  refine wr_y rfl (y_move rfl) ?_
  refine wr_y rfl (y_move rfl) ?_
  refine wr_a rfl (a_callF en28 rfl (Ct.fresh (fun w hw => turn4_ct ((h_u.c _) w hw) ⟨hk.1, by omega⟩ (by first | assumption | omega | decide)))) ?_
  rintro _ _ ⟨_, rfl, A_4, c_5, rfl, rfl⟩
  refine wr_a rfl (a_callF en61 rfl (Ct.quiet (fun w hw => words4_ct ((rdr 1 rfl) w hw) ((rdr 0 rfl) w hw)))) ?_
  rintro _ _ ⟨rfl, rfl⟩
  refine wr_y rfl (y_assign rfl) ?_
  refine wr_nil ?_
  refine w_retR (R1 := []) (fun _ h => h.sel [] (by decide) rfl) ?_
  refine ⟨_, rfl, ?_⟩
  rfl

/-! whorl/whorlref6.At -/
set_option maxRecDepth 100000 in
theorem atR6_ct {w : World} {A_u : Option Addr} {n_u c_u : Nat} {u : List Int} (h_u : Rd w A_u n_u c_u 1 (ints .u8 u)) (hN : u.length ≤ 1000000) :
    Ct Try.prog 20 #[.slice A_u n_u c_u] w.heap.size w [] (fun v R' => v = .int .i64 (lrot u)) := by
  obtain rfl := h_u.lenI
  refine fn1 Try.func20 rfl rfl rfl ?_
  have m_u := h_u.max
  refine w_seq ?_
  refine w_reg ?_
  refine wr_y rfl (y_assign rfl) ?_
  refine wr_nil ?_
  refine w_seq ?_
  refine w_reg ?_
  refine wr_y rfl (y_assign rfl) ?_
  refine wr_nil ?_
  refine w_seq ?_
  refine w_seq ?_
  refine w_reg ?_
  refine wr_y rfl (y_assign rfl) ?_
  refine wr_nil ?_
  refine w_block ?_
  refine w_loop2 (fun (i : Int) (k : Int) => [(0, .slice A_u u.length c_u), (3, .int .i64 k), (4, .int .i64 i)]) (fun (i : Int) (k : Int) => []) (fun (i : Int) (k : Int) => (1 ≤ i) ∧ (i ≤ u.length ∨ i = 1) ∧ (k = lrotK u i.toNat)) (fun (i : Int) (k : Int) => (u.length - i).toNat) ?_ ?_
  ·
    exact ⟨1, 0, ⟨(by omega), (by omega), (by have := lrotK_lt u 1 (by decide); show (0 : Int) = ((lrotK u 1 : Nat) : Int); omega)⟩, (Sub.cons rfl (Sub.cons rfl (Sub.cons rfl Sub.nil))), fun _ h => h⟩
  intro i k ⟨hi1, hi2, hk⟩
  have hkl := lrotK_lt u i.toNat (by omega)
  refine w_seq ?_
  refine w_seq ?_
  refine w_reg ?_
  refine wr_y rfl (y_move rfl) ?_
  refine wr_y rfl (y_move rfl) ?_
  refine wr_y rfl (y_len Try.underlying22 rfl) ?_
  refine wr_y rfl (y_lt rfl rfl) ?_
  refine wr_nil ?_
  refine w_if rfl (fun hc1 => ?_) (fun hc1 => ?_)
  ·
    refine w_skip ?_
    refine w_seq ?_
    refine w_block ?_
    refine w_seq ?_
    refine w_reg ?_
    refine wr_y rfl (y_move rfl) ?_
    refine wr_y rfl (y_move rfl) ?_
    refine wr_y rfl (y_move rfl) ?_
    refine wr_a rfl (a_callF en42 rfl (Ct.quiet (fun w hw => turns4_ct ((h_u.c _) w hw) (by first | assumption | omega | decide) (by first | assumption | omega | decide) (by first | assumption | omega | decide)))) ?_
    rintro _ _ ⟨rfl, rfl⟩
    refine wr_y rfl (y_lt rfl rfl) ?_
    refine wr_nil ?_
    refine w_if rfl (fun hc2 => ?_) (fun hc2 => ?_)
    ·
      refine w_reg ?_
      refine wr_y rfl (y_move rfl) ?_
      refine wr_y rfl (y_assign rfl) ?_
      refine wr_nil ?_
      refine w_reg ?_
      refine wr_y rfl (y_move rfl) ?_
      refine wr_y rfl (y_addI rfl rfl (by omega)) ?_
      refine wr_y rfl (y_assign rfl) ?_
      refine wr_nil ?_
      exact ⟨i + 1, i, ⟨(by omega), (by omega), (lrotK_yes hi1 hk (by assumption))⟩, (by omega), (Sub.cons rfl (Sub.cons rfl (Sub.cons rfl Sub.nil))), fun _ h => h⟩
    ·
      refine w_skip ?_
      refine w_reg ?_
      refine wr_y rfl (y_move rfl) ?_
      refine wr_y rfl (y_addI rfl rfl (by omega)) ?_
      refine wr_y rfl (y_assign rfl) ?_
      refine wr_nil ?_
      exact ⟨i + 1, k, ⟨(by omega), (by omega), (lrotK_no hi1 hk (by assumption))⟩, (by omega), (Sub.cons rfl (Sub.cons rfl (Sub.cons rfl Sub.nil))), fun _ h => h⟩
  ·
    refine w_exit ?_
    refine w_seq ?_
    refine w_reg ?_
    refine wr_y rfl (y_move rfl) ?_
    refine wr_y rfl (y_assign rfl) ?_
    refine wr_nil ?_
    refine w_ret ?_
    refine ⟨_, rfl, ?_⟩
    rcases Nat.eq_zero_or_pos u.length with z | z
    · obtain rfl : k = 0 := by omega
      have e : lrot u = 0 := by unfold lrot; rw [z]; rfl
      rw [e]
    · obtain rfl : i = u.length := by omega
      rw [hk, Int.toNat_natCast]; rfl

/-! whorl/whorlref6.Of -/
set_option maxRecDepth 100000 in
theorem of6_ct {w : World} {A_u : Option Addr} {n_u c_u : Nat} {u : List Int} (h_u : Rd w A_u n_u c_u 1 (ints .u8 u)) (hN : u.length ≤ 1000000) :
    Ct Try.prog 44 #[.slice A_u n_u c_u] w.heap.size w [] (fun v R' => ∃ A c, v = .slice A (lw u).length c ∧ R' = [⟨5, 1, A, (lw u).length, c, ints .u8 (lw u), false⟩]) := by
  obtain rfl := h_u.lenI
  refine fn1 Try.func44 rfl rfl rfl ?_
  have m_u := h_u.max
  have hlr := lrot_bd u
  refine w_seq ?_
  refine w_reg ?_
  refine wr_y rfl (y_assign rfl) ?_
  refine wr_nil ?_
  refine w_seq ?_
  refine w_reg ?_
  refine wr_y rfl (y_move rfl) ?_
  refine wr_y rfl (y_move rfl) ?_
  refine wr_a rfl (a_callF en20 rfl (Ct.quiet (fun w hw => atR6_ct ((h_u.c _) w hw) (by first | assumption | omega | decide)))) ?_
  rintro _ _ ⟨rfl, rfl⟩
  refine wr_a rfl (a_callF en28 rfl (Ct.fresh (fun w hw => turn4_ct ((h_u.c _) w hw) ⟨hlr.1, hlr.2.1⟩ (by first | assumption | omega | decide)))) ?_
  rintro _ _ ⟨_, rfl, A_1, c_2, rfl, rfl⟩
  refine wr_y rfl (y_assign rfl) ?_
  refine wr_nil ?_
  refine w_retR (R1 := [⟨5, 1, A_1, (u.drop ((lrot u)).toNat ++ u.take ((lrot u)).toNat).length, c_2, ints .u8 (u.drop ((lrot u)).toNat ++ u.take ((lrot u)).toNat), false⟩]) (fun _ h => h.sel [0] (by decide) rfl) ?_
  refine ⟨_, rfl, ?_⟩
  exact ⟨_, _, rfl, rfl⟩

theorem bord_step {u L : List Int} {i z : Int} (i1 : 1 ≤ i) (hi : i < u.length) (hl : L.length = u.length) (hM : ∀ j : Int, 0 ≤ j → j < i → j < u.length → MB u (j + 1).toNat (rd L j)) (h : MB u (i.toNat + 1) z) : ∀ j : Int, 0 ≤ j → j < i + 1 → j < u.length → MB u (j + 1).toNat (rd (upd L i z) j) := fun j h0 h1 h2 => by
  by_cases e : j = i
  · subst e
    rw [rd_upd_same (by omega) (by omega), show (j + 1).toNat = j.toNat + 1 by omega]
    exact h
  · rw [rd_upd_other (by omega) h0 (fun q => e q.symm)]
    exact hM j h0 (by omega) h2
/-! whorl/period.Borders -/
set_option maxRecDepth 100000 in
set_option maxHeartbeats 800000 in
theorem borders_ct {w : World} {A_u : Option Addr} {n_u c_u : Nat} {u : List Int} (h_u : Rd w A_u n_u c_u 1 (ints .u8 u)) (hN : u.length ≤ 1000000) :
    Ct Try.prog 100 #[.slice A_u n_u c_u] w.heap.size w [] (fun v R' => ∃ (A : Option Addr) (c : Nat) (L : List Int), v = .slice A L.length c ∧ L.length = u.length ∧ (∀ j : Int, 0 ≤ j → j < u.length → j < u.length → MB u (j + 1).toNat (rd L j)) ∧ R' = [⟨3, 1, A, L.length, c, ints .i64 L, false⟩]) := by
  obtain rfl := h_u.lenI
  refine fn1 Try.func100 rfl rfl rfl ?_
  have m_u := h_u.max
  refine w_seq ?_
  refine w_reg ?_
  refine wr_y rfl (y_assign rfl) ?_
  refine wr_nil ?_
  refine w_seq ?_
  refine w_reg ?_
  refine wr_y rfl (y_move rfl) ?_
  refine wr_y rfl (y_len Try.underlying22 rfl) ?_
  refine wr_a rfl (a_makeN Try.underlying35 zb3 rfl rfl (by omega) (by omega) (by omega)) ?_
  rintro _ _ ⟨g_1, rfl, rfl⟩
  refine wr_rows (R1 := [⟨3, 1, (some ⟨g_1, 0, none⟩), u.length, u.length, ints .i64 (List.replicate u.length (0 : Int)), false⟩]) rfl ?_
  refine wr_as (v := .slice (some ⟨g_1, 0, none⟩) u.length u.length) rfl ?_
  refine wr_y rfl (y_assign rfl) ?_
  refine wr_nil ?_
  refine w_seq ?_
  refine w_reg ?_
  refine wr_y rfl (y_assign rfl) ?_
  refine wr_nil ?_
  refine w_seq ?_
  refine w_seq ?_
  refine w_reg ?_
  refine wr_y rfl (y_assign rfl) ?_
  refine wr_nil ?_
  refine w_block ?_
  refine w_loop3 (fun (i : Int) (z : Int) (L : List Int) => [(0, .slice A_u u.length c_u), (3, .slice (some ⟨g_1, 0, none⟩) u.length u.length), (4, .int .i64 z), (5, .int .i64 i)]) (fun (i : Int) (z : Int) (L : List Int) => [⟨3, 1, (some ⟨g_1, 0, none⟩), u.length, u.length, ints .i64 L, false⟩]) (fun (i : Int) (z : Int) (L : List Int) => (1 ≤ i) ∧ (i ≤ u.length ∨ i = 1) ∧ (L.length = u.length) ∧ (∀ j : Int, 0 ≤ j → j < i → j < u.length → MB u (j + 1).toNat (rd L j)) ∧ (MB u i.toNat z)) (fun (i : Int) (z : Int) (L : List Int) => (u.length - i).toNat) ?_ ?_
  ·
    exact ⟨1, 0, List.replicate u.length (0 : Int), ⟨(by omega), (by omega), (by rw [List.length_replicate]), (fun j h0 h1 h2 => by obtain rfl : j = 0 := (by omega); have e : rd (List.replicate u.length (0 : Int)) 0 = 0 := (by unfold rd; rw [List.getD_eq_getElem?_getD, List.getElem?_replicate]; split <;> rfl); rw [e]; exact MB.one), (MB.one)⟩, (Sub.cons rfl (Sub.cons rfl (Sub.cons rfl (Sub.cons rfl Sub.nil)))), fun _ h => h⟩
  intro i z L ⟨hi1, hi2, hLl, hM, hn⟩
  refine w_seq ?_
  refine w_seq ?_
  refine w_reg ?_
  refine wr_y rfl (y_move rfl) ?_
  refine wr_y rfl (y_move rfl) ?_
  refine wr_y rfl (y_len Try.underlying22 rfl) ?_
  refine wr_y rfl (y_lt rfl rfl) ?_
  refine wr_nil ?_
  refine w_if rfl (fun hc1 => ?_) (fun hc1 => ?_)
  ·
    refine w_skip ?_
    refine w_seq ?_
    refine w_block ?_
    refine w_seq ?_
    refine w_block ?_
    refine w_loop1 (fun (m : Int) => [(0, .slice A_u u.length c_u), (3, .slice (some ⟨g_1, 0, none⟩) u.length u.length), (4, .int .i64 m), (5, .int .i64 i)]) (fun (m : Int) => [⟨3, 1, (some ⟨g_1, 0, none⟩), u.length, u.length, ints .i64 L, false⟩]) (fun (m : Int) => (KI u i.toNat m)) (fun (m : Int) => m.toNat) ?_ ?_
    ·
      exact ⟨z, (KI.init hn), (Sub.cons rfl (Sub.cons rfl (Sub.cons rfl (Sub.cons rfl Sub.nil)))), fun _ h => h⟩
    intro m hK
    have hKb := hK.bd
    refine w_seq ?_
    refine w_join0 [(0, .slice A_u u.length c_u), (3, .slice (some ⟨g_1, 0, none⟩) u.length u.length), (4, .int .i64 m), (5, .int .i64 i), (27, .bool (decide ((0 < m) ∧ ((rd u i) ≠ (rd u m)))))] [⟨3, 1, (some ⟨g_1, 0, none⟩), u.length, u.length, ints .i64 L, false⟩] ?_ ?_
    ·
      refine w_regd mixed ?_
      refine wd_y 0 rfl (by kernel_rfl) rfl (y_move rfl) ?_
      refine wd_y 1 rfl (by kernel_rfl) rfl (y_gt rfl rfl) ?_
      refine wd_y 2 rfl (by kernel_rfl) rfl (y_move rfl) ?_
      refine wd_case 17 rfl (fun hc2 => ?_) (fun hc2 => ?_)
      ·
        refine wd_yg 3 rfl (by kernel_rfl) rfl rfl rfl (y_move rfl) ?_
        refine wd_yg 4 rfl (by kernel_rfl) rfl rfl rfl (y_move rfl) ?_
        refine wd_yg 5 rfl (by kernel_rfl) rfl rfl rfl (y_index1 Try.underlying22 sz5 rfl rfl (h_u.c _) (by omega) (by omega)) ?_
        refine wd_yg 6 rfl (by kernel_rfl) rfl rfl rfl (y_ldI Try.underlying5 rfl rfl (h_u.c _) (by omega) (by omega)) ?_
        refine wd_yg 7 rfl (by kernel_rfl) rfl rfl rfl (y_move rfl) ?_
        refine wd_yg 8 rfl (by kernel_rfl) rfl rfl rfl (y_move rfl) ?_
        refine wd_yg 9 rfl (by kernel_rfl) rfl rfl rfl (y_index1 Try.underlying22 sz5 rfl rfl (h_u.c _) (by omega) (by omega)) ?_
        refine wd_yg 10 rfl (by kernel_rfl) rfl rfl rfl (y_ldI Try.underlying5 rfl rfl (h_u.c _) (by omega) (by omega)) ?_
        refine wd_yg 11 rfl (by kernel_rfl) rfl rfl rfl (y_ne rfl rfl) ?_
        refine wd_y 12 rfl (by kernel_rfl) rfl (y_pickT rfl rfl) ?_
        refine wd_nil (by kernel_rfl) ?_
        exact ⟨(Sub.cons rfl (Sub.cons rfl (Sub.cons rfl (Sub.cons rfl (Sub.to rfl (mb (by first | omega | exact ⟨fun h => ⟨(by assumption), h⟩, fun h => h.2⟩ | simp [*])) Sub.nil))))), fun _ h => h⟩
      ·
        refine wd_no 3 rfl (by kernel_rfl) rfl rfl rfl rfl ?_
        refine wd_no 4 rfl (by kernel_rfl) rfl rfl rfl rfl ?_
        refine wd_no 5 rfl (by kernel_rfl) rfl rfl rfl rfl ?_
        refine wd_no 6 rfl (by kernel_rfl) rfl rfl rfl rfl ?_
        refine wd_no 7 rfl (by kernel_rfl) rfl rfl rfl rfl ?_
        refine wd_no 8 rfl (by kernel_rfl) rfl rfl rfl rfl ?_
        refine wd_no 9 rfl (by kernel_rfl) rfl rfl rfl rfl ?_
        refine wd_no 10 rfl (by kernel_rfl) rfl rfl rfl rfl ?_
        refine wd_no 11 rfl (by kernel_rfl) rfl rfl rfl rfl ?_
        refine wd_y 12 rfl (by kernel_rfl) rfl (y_pickF rfl rfl) ?_
        refine wd_nil (by kernel_rfl) ?_
        exact ⟨(Sub.cons rfl (Sub.cons rfl (Sub.cons rfl (Sub.cons rfl (Sub.to rfl (mb_f (by first | omega | exact ⟨fun h => ⟨(by assumption), h⟩, fun h => h.2⟩ | simp [*])) Sub.nil))))), fun _ h => h⟩
    refine w_if rfl (fun hc3 => ?_) (fun hc3 => ?_)
    ·
      have hst : rd u m ≠ rd u i := fun e => hc3.2 e.symm
      have hMm := hM (m - 1) (by omega) (by omega) (by omega)
      rw [show (m - 1 + 1).toNat = m.toNat by omega] at hMm
      refine w_skip ?_
      refine w_block ?_
      refine w_reg ?_
      refine wr_y rfl (y_move rfl) ?_
      refine wr_y rfl (y_move rfl) ?_
      refine wr_y rfl (y_subI rfl rfl (by omega)) ?_
      refine wr_y rfl (y_index1 Try.underlying35 sz3 rfl rfl (rdr 0 rfl) (by omega) (by omega)) ?_
      refine wr_y rfl (y_ldI Try.underlying3 rfl rfl (rdr 0 rfl) (by omega) (by omega)) ?_
      refine wr_y rfl (y_assign rfl) ?_
      refine wr_nil ?_
      exact ⟨rd L (m - 1), (hK.step (by rw [← lt_rd, ← lt_rd]; exact hst) hMm), (by have := hMm.bd; omega), (Sub.cons rfl (Sub.cons rfl (Sub.cons rfl (Sub.cons rfl Sub.nil)))), fun _ h => h⟩
    ·
      refine w_exit ?_
      refine w_seq ?_
      refine w_seq ?_
      refine w_regd mixed ?_
      refine wd_y 0 rfl (by kernel_rfl) rfl (y_move rfl) ?_
      refine wd_y 1 rfl (by kernel_rfl) rfl (y_move rfl) ?_
      refine wd_y 2 rfl (by kernel_rfl) rfl (y_index1 Try.underlying22 sz5 rfl rfl (h_u.c _) (by omega) (by omega)) ?_
      refine wd_y 3 rfl (by kernel_rfl) rfl (y_ldI Try.underlying5 rfl rfl (h_u.c _) (by omega) (by omega)) ?_
      refine wd_y 4 rfl (by kernel_rfl) rfl (y_move rfl) ?_
      refine wd_y 5 rfl (by kernel_rfl) rfl (y_move rfl) ?_
      refine wd_y 6 rfl (by kernel_rfl) rfl (y_index1 Try.underlying22 sz5 rfl rfl (h_u.c _) (by omega) (by omega)) ?_
      refine wd_y 7 rfl (by kernel_rfl) rfl (y_ldI Try.underlying5 rfl rfl (h_u.c _) (by omega) (by omega)) ?_
      refine wd_y 8 rfl (by kernel_rfl) rfl (y_eq rfl rfl) ?_
      refine wd_nil (by kernel_rfl) ?_
      refine w_if rfl (fun hc4 => ?_) (fun hc4 => ?_)
      ·
        have hmb := hK.hit (by rw [← lt_rd, ← lt_rd]; exact hc4.symm)
        refine w_reg ?_
        refine wr_y rfl (y_move rfl) ?_
        refine wr_y rfl (y_addI rfl rfl (by omega)) ?_
        refine wr_y rfl (y_assign rfl) ?_
        refine wr_nil ?_
        refine w_reg ?_
        refine wr_y rfl (y_move rfl) ?_
        refine wr_y rfl (y_move rfl) ?_
        refine wr_y rfl (y_move rfl) ?_
        refine wr_y rfl (y_index1 Try.underlying35 sz3 rfl rfl (rdr 0 rfl) (by omega) (by omega)) ?_
        refine wr_n (a_storeI 0 rfl sz3 rfl rfl (by omega) (by omega)) ?_
        rintro _ _ rfl
        refine wr_rows (R1 := [⟨3, 1, (some ⟨g_1, 0, none⟩), u.length, u.length, ints .i64 (upd L i (m + 1)), false⟩]) rfl ?_
        refine wr_nil ?_
        refine w_reg ?_
        refine wr_y rfl (y_move rfl) ?_
        refine wr_y rfl (y_addI rfl rfl (by omega)) ?_
        refine wr_y rfl (y_assign rfl) ?_
        refine wr_nil ?_
        exact ⟨i + 1, m + 1, upd L i (m + 1), ⟨(by omega), (by omega), (by rw [upd_length]; exact hLl), (bord_step hi1 (by omega) hLl hM hmb), (by rw [show (i + 1).toNat = i.toNat + 1 by omega]; exact hmb)⟩, (by omega), (Sub.cons rfl (Sub.cons rfl (Sub.cons rfl (Sub.cons rfl Sub.nil)))), fun _ h => h⟩
      ·
        have hmb := hK.miss (by omega) (by rw [← lt_rd, ← lt_rd]; exact fun e => hc4 e.symm)
        refine w_skip ?_
        refine w_reg ?_
        refine wr_y rfl (y_move rfl) ?_
        refine wr_y rfl (y_move rfl) ?_
        refine wr_y rfl (y_move rfl) ?_
        refine wr_y rfl (y_index1 Try.underlying35 sz3 rfl rfl (rdr 0 rfl) (by omega) (by omega)) ?_
        refine wr_n (a_storeI 0 rfl sz3 rfl rfl (by omega) (by omega)) ?_
        rintro _ _ rfl
        refine wr_rows (R1 := [⟨3, 1, (some ⟨g_1, 0, none⟩), u.length, u.length, ints .i64 (upd L i m), false⟩]) rfl ?_
        refine wr_nil ?_
        refine w_reg ?_
        refine wr_y rfl (y_move rfl) ?_
        refine wr_y rfl (y_addI rfl rfl (by omega)) ?_
        refine wr_y rfl (y_assign rfl) ?_
        refine wr_nil ?_
        exact ⟨i + 1, m, upd L i m, ⟨(by omega), (by omega), (by rw [upd_length]; exact hLl), (bord_step hi1 (by omega) hLl hM hmb), (by rw [show (i + 1).toNat = i.toNat + 1 by omega]; exact hmb)⟩, (by omega), (Sub.cons rfl (Sub.cons rfl (Sub.cons rfl (Sub.cons rfl Sub.nil)))), fun _ h => h⟩
  ·
    refine w_exit ?_
    refine w_seq ?_
    refine w_reg ?_
    refine wr_y rfl (y_move rfl) ?_
    refine wr_y rfl (y_assign rfl) ?_
    refine wr_nil ?_
    refine w_retR (R1 := [⟨3, 1, (some ⟨g_1, 0, none⟩), u.length, u.length, ints .i64 L, false⟩]) (fun _ h => h.sel [0] (by decide) rfl) ?_
    refine ⟨_, rfl, ?_⟩
    exact ⟨_, _, L, by rw [hLl], hLl, fun j h0 h1 _ => hM j h0 (by omega) h1, by rw [hLl]⟩

/-! whorl/period.Least -/
set_option maxRecDepth 100000 in
theorem leastP_ct {w : World} {A_u : Option Addr} {n_u c_u : Nat} {u : List Int} (h_u : Rd w A_u n_u c_u 1 (ints .u8 u)) (hN : u.length ≤ 1000000) :
    Ct Try.prog 85 #[.slice A_u n_u c_u] w.heap.size w [] (fun v R' => v = .int .i64 (lp u)) := by
  obtain rfl := h_u.lenI
  refine fn1 Try.func85 rfl rfl rfl ?_
  have m_u := h_u.max
  refine w_seq ?_
  refine w_reg ?_
  refine wr_y rfl (y_assign rfl) ?_
  refine wr_nil ?_
  refine w_seq ?_
  refine w_seq ?_
  refine w_reg ?_
  refine wr_y rfl (y_move rfl) ?_
  refine wr_y rfl (y_len Try.underlying22 rfl) ?_
  refine wr_y rfl (y_eq rfl rfl) ?_
  refine wr_nil ?_
  refine w_if rfl (fun hc1 => ?_) (fun hc1 => ?_)
  ·
    refine w_seq ?_
    refine w_reg ?_
    refine wr_y rfl (y_assign rfl) ?_
    refine wr_nil ?_
    refine w_ret ?_
    refine ⟨_, rfl, ?_⟩
    exact congrArg (Value.int .i64) (by rw [List.eq_nil_of_length_eq_zero (show u.length = 0 by omega)]; rfl)
  ·
    refine w_skip ?_
    refine w_seq ?_
    refine w_reg ?_
    refine wr_y rfl (y_move rfl) ?_
    refine wr_y rfl (y_len Try.underlying22 rfl) ?_
    refine wr_y rfl (y_move rfl) ?_
    refine wr_a rfl (a_callF en100 rfl (Ct.fresh (fun w hw => borders_ct ((h_u.c _) w hw) (by first | assumption | omega | decide)))) ?_
    rintro _ _ ⟨_, rfl, A_1, c_2, L_3, rfl, hLl, hLM, rfl⟩
    refine wr_y rfl (y_move rfl) ?_
    refine wr_y rfl (y_len Try.underlying22 rfl) ?_
    refine wr_y rfl (y_subI rfl rfl (by omega)) ?_
    refine wr_y rfl (y_index1 Try.underlying35 sz3 rfl rfl (rdr 0 rfl) (by omega) (by omega)) ?_
    refine wr_y rfl (y_ldI Try.underlying3 rfl rfl (rdr 0 rfl) (by omega) (by omega)) ?_
    refine wr_y rfl (y_subI rfl rfl (by have hq := (hLM (u.length - 1) (by omega) (by omega) (by omega)).bd; omega)) ?_
    refine wr_y rfl (y_assign rfl) ?_
    refine wr_nil ?_
    refine w_retR (R1 := []) (fun _ h => h.sel [] (by decide) rfl) ?_
    refine ⟨_, rfl, ?_⟩
    exact congrArg (Value.int .i64) (MB.least (by omega) (by have := hLM (u.length - 1) (by omega) (by omega) (by omega); rw [show ((u.length : Int) - 1 + 1).toNat = u.length by omega] at this; exact this))

/-! whorl/period.Root -/
set_option maxRecDepth 100000 in
theorem rootP_ct {w : World} {A_u : Option Addr} {n_u c_u : Nat} {u : List Int} (h_u : Rd w A_u n_u c_u 1 (ints .u8 u)) (hN : u.length ≤ 1000000) :
    Ct Try.prog 62 #[.slice A_u n_u c_u] w.heap.size w [] (fun v R' => ∃ (A : Option Addr) (c : Nat), v = .tuple #[.slice A (rootW u).length c, .int .i64 (timesW u)] ∧ R' = [⟨5, 1, A, (rootW u).length, c, ints .u8 (rootW u), false⟩]) := by
  obtain rfl := h_u.lenI
  refine fn2 Try.func62 rfl rfl rfl ?_
  have m_u := h_u.max
  refine w_seq ?_
  refine w_reg ?_
  refine wr_sub (R1 := [⟨5, 1, none, 0, 0, ints .u8 ([]), false⟩]) (Sub.refl _) (fun _ h => h.nil 5 1) ?_
  refine wr_y rfl (y_assign rfl) ?_
  refine wr_y rfl (y_assign rfl) ?_
  refine wr_nil ?_
  refine w_seq ?_
  refine w_seq ?_
  refine w_reg ?_
  refine wr_y rfl (y_move rfl) ?_
  refine wr_y rfl (y_len Try.underlying22 rfl) ?_
  refine wr_y rfl (y_eq rfl rfl) ?_
  refine wr_nil ?_
  refine w_if rfl (fun hc1 => ?_) (fun hc1 => ?_)
  ·
    refine w_seq ?_
    refine w_reg ?_
    refine wr_y rfl (y_assign rfl) ?_
    refine wr_y rfl (y_assign rfl) ?_
    refine wr_nil ?_
    refine w_retR (R1 := [⟨5, 1, none, 0, 0, ints .u8 ([]), false⟩]) (fun _ h => h.sel [0] (by decide) rfl) ?_
    refine ⟨_, _, rfl, rfl, ?_⟩
    obtain rfl := List.eq_nil_of_length_eq_zero (show u.length = 0 by omega)
    exact ⟨_, _, rfl, rfl⟩
  ·
    have hlp := lp_range (u := u) (by omega)
    refine w_skip ?_
    refine w_seq ?_
    refine w_reg ?_
    refine wr_y rfl (y_move rfl) ?_
    refine wr_a rfl (a_callF en85 rfl (Ct.quiet (fun w hw => leastP_ct ((h_u.c _) w hw) (by first | assumption | omega | decide)))) ?_
    rintro _ _ ⟨rfl, rfl⟩
    refine wr_y rfl (y_assign rfl) ?_
    refine wr_nil ?_
    refine w_seq ?_
    refine w_seq ?_
    refine w_reg ?_
    refine wr_y rfl (y_move rfl) ?_
    refine wr_y rfl (y_len Try.underlying22 rfl) ?_
    refine wr_y rfl (y_move rfl) ?_
    refine wr_y rfl (y_rem rfl rfl (by omega) (by omega)) ?_
    refine wr_y rfl (y_ne rfl rfl) ?_
    refine wr_nil ?_
    refine w_if rfl (fun hc2 => ?_) (fun hc2 => ?_)
    ·
      refine w_reg ?_
      refine wr_y rfl (y_move rfl) ?_
      refine wr_y rfl (y_len Try.underlying22 rfl) ?_
      refine wr_y rfl (y_assign rfl) ?_
      refine wr_nil ?_
      refine w_seq ?_
      refine w_regd mixed ?_
      refine wd_y 0 rfl (by kernel_rfl) rfl (y_move rfl) ?_
      refine wd_y 1 rfl (by kernel_rfl) rfl (y_move rfl) ?_
      refine wd_y 2 rfl (by kernel_rfl) rfl (y_sliceTo Try.underlying22 sz5 rfl rfl (h_u.c _) (by omega) (by omega)) ?_
      refine wd_y 4 rfl (by kernel_rfl) rfl (y_move rfl) ?_
      refine wd_y 5 rfl (by kernel_rfl) rfl (y_len Try.underlying22 rfl) ?_
      refine wd_y 6 rfl (by kernel_rfl) rfl (y_move rfl) ?_
      refine wd_y 7 rfl (by kernel_rfl) rfl (y_quoI rfl rfl (by omega) (by omega) (by omega)) ?_
      refine wd_a 3 rfl (by kernel_rfl) rfl (a_callF en86 rfl (Ct.fresh (fun w hw => cloneB_ct ((RdC.toI (h_u.c _) (by omega)) w hw) (by rw [List.length_take]; omega)))) ?_
      rintro _ _ ⟨_, rfl, A_1, c_2, rfl, rfl⟩
      refine ⟨.inr fun _ h => h.right (R' := [_]), ?_⟩
      refine wd_y 8 rfl (by kernel_rfl) rfl (y_assign rfl) ?_
      refine wd_y 9 rfl (by kernel_rfl) rfl (y_assign rfl) ?_
      refine wd_nil (by kernel_rfl) ?_
      refine w_retR (R1 := [⟨5, 1, A_1, ((u).take (((u.length : Nat) : Int)).toNat).length, c_2, ints .u8 ((u).take (((u.length : Nat) : Int)).toNat), false⟩]) (fun _ h => h.sel [0] (by decide) rfl) ?_
      refine ⟨_, _, rfl, rfl, ?_⟩
      have e : rl u = u.length := by unfold rl; rw [if_pos (by assumption)]
      unfold rootW timesW
      rw [e]
      exact ⟨_, _, rfl, rfl⟩
    ·
      refine w_skip ?_
      refine w_seq ?_
      refine w_regd mixed ?_
      refine wd_y 0 rfl (by kernel_rfl) rfl (y_move rfl) ?_
      refine wd_y 1 rfl (by kernel_rfl) rfl (y_move rfl) ?_
      refine wd_y 2 rfl (by kernel_rfl) rfl (y_sliceTo Try.underlying22 sz5 rfl rfl (h_u.c _) (by omega) (by omega)) ?_
      refine wd_y 4 rfl (by kernel_rfl) rfl (y_move rfl) ?_
      refine wd_y 5 rfl (by kernel_rfl) rfl (y_len Try.underlying22 rfl) ?_
      refine wd_y 6 rfl (by kernel_rfl) rfl (y_move rfl) ?_
      refine wd_y 7 rfl (by kernel_rfl) rfl (y_quoI rfl rfl (by omega) (by omega) (by omega)) ?_
      refine wd_a 3 rfl (by kernel_rfl) rfl (a_callF en86 rfl (Ct.fresh (fun w hw => cloneB_ct ((RdC.toI (h_u.c _) (by omega)) w hw) (by rw [List.length_take]; omega)))) ?_
      rintro _ _ ⟨_, rfl, A_4, c_5, rfl, rfl⟩
      refine ⟨.inr fun _ h => h.right (R' := [_]), ?_⟩
      refine wd_y 8 rfl (by kernel_rfl) rfl (y_assign rfl) ?_
      refine wd_y 9 rfl (by kernel_rfl) rfl (y_assign rfl) ?_
      refine wd_nil (by kernel_rfl) ?_
      refine w_retR (R1 := [⟨5, 1, A_4, ((u).take (lp u).toNat).length, c_5, ints .u8 ((u).take (lp u).toNat), false⟩]) (fun _ h => h.sel [0] (by decide) rfl) ?_
      refine ⟨_, _, rfl, rfl, ?_⟩
      have e : rl u = lp u := by unfold rl; rw [if_neg (by assumption)]
      unfold rootW timesW
      rw [e]
      exact ⟨_, _, rfl, rfl⟩

end Go.Proofs.Ytdfcnalkdlifiaa
