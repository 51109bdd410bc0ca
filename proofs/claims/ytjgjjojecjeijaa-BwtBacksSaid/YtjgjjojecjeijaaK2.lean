/- Walks of Go functions, printed by a program of our own. -/
import Derived.Test.YtjgjjojecjeijaaK1
import Derived.Test.YtjgjjojecjeijaaQ18
import Derived.Test.YtjgjjojecjeijaaQ20
namespace Go.Proofs.Ytjgjjojecjeijaa
open Go Go.Eng Go.Pure
set_option linter.unusedVariables false
theorem inv_no_step {a D : List Int} {i : Int} {n : Nat} (i0 : 0 ≤ i) (hi : i < a.length) (hl : D.length = n) (ha : 0 ≤ rd a i ∧ rd a i < n) (h : ∀ x : Int, 0 ≤ x → x < n → (0 ≤ rd D x ↔ x ∈ a.take i.toNat)) : ∀ x : Int, 0 ≤ x → x < n → (0 ≤ rd (upd D (rd a i) i) x ↔ x ∈ a.take (i + 1).toNat) := by
  intro x x0 x1
  rw [take_rd i0 hi, rd_upd ha.1 x0 (by omega), List.mem_append, List.mem_singleton]
  split
  · rename_i e; exact ⟨fun _ => .inr e, fun _ => i0⟩
  · rename_i e; rw [h x x0 x1]; exact ⟨.inl, fun h => h.resolve_right e⟩
theorem ofL_nil {u a : List Int} (h : u.length = 0) (ha : a.length = 0) : ofL u a = [] ∧ zat a = 0 := by
  obtain rfl : u = [] := List.eq_nil_of_length_eq_zero h
  obtain rfl : a = [] := List.eq_nil_of_length_eq_zero ha
  exact ⟨rfl, rfl⟩
theorem bkOut_byt {u : List Int} (hu : ByteL u) (m : Int) : ByteL (bkOut u m) := by
  intro x hx
  unfold bkOut at hx
  obtain ⟨i, _, rfl⟩ := List.mem_map.1 hx
  exact hu.rd _
theorem cnt_part {u : List Int} {i j : Int} (j0 : 0 ≤ j) : ((iota (j + 1).toNat).countP fun x => decide (tl u x i)) = ((iota j.toNat).countP fun x => decide (tl u x i)) + if tl u j i then 1 else 0 := by
  rw [iota_succ j0, List.countP_append, List.countP_singleton]
  simp only [decide_eq_true_eq]
theorem cnt_yes {u : List Int} {i j z : Int} (j0 : 0 ≤ j) (hz : z = 1 + (((iota j.toNat).countP fun x => decide (tl u x i) : Nat) : Int)) (h : rd u j < rd u i ∨ rd u j = rd u i ∧ j < i) : z + 1 = 1 + (((iota (j + 1).toNat).countP fun x => decide (tl u x i) : Nat) : Int) := by
  rw [cnt_part j0, if_pos (show tl u j i from h), hz]; omega
theorem cnt_no {u : List Int} {i j z : Int} (j0 : 0 ≤ j) (hz : z = 1 + (((iota j.toNat).countP fun x => decide (tl u x i) : Nat) : Int)) (h : ¬ (rd u j < rd u i ∨ rd u j = rd u i ∧ j < i)) : z = 1 + (((iota (j + 1).toNat).countP fun x => decide (tl u x i) : Nat) : Int) := by
  rw [cnt_part j0, if_neg (show ¬ tl u j i from h), hz]; omega
theorem cnt_bd (u : List Int) (i j : Int) : (((iota j.toNat).countP fun x => decide (tl u x i) : Nat) : Int) ≤ j.toNat := by
  have := List.countP_le_length (p := fun x => decide (tl u x i)) (l := iota j.toNat)
  rw [iota_len] at this
  omega
theorem cnt_all {u : List Int} {i j z : Int} (hz : z = 1 + (((iota j.toNat).countP fun x => decide (tl u x i) : Nat) : Int)) (hj : j = u.length) : z = lfC u i + 1 := by
  unfold lfC
  rw [hz, hj, Int.toNat_natCast]; omega
/-! whorl/whorlref16.Inverse -/
set_option maxRecDepth 100000 in
set_option maxHeartbeats 800000 in
theorem inv16No_ct {w : World} {A_a : Option Addr} {n_a c_a : Nat} {a : List Int} (h_a : Rd w A_a n_a c_a 1 (ints .i64 a)) (hnp : ¬ a.Perm (iota a.length)) (hN : a.length ≤ 1000000) :
    Ct Try.prog 40 #[.slice A_a n_a c_a] w.heap.size w [] (fun v R' => v = .tuple #[.slice none 0 0, .bool false]) := by
  obtain rfl := h_a.lenI
  refine fn2 Try.func40 rfl rfl rfl ?_
  have m_a := h_a.max
  refine w_seq ?_
  refine w_reg ?_
  refine wr_y rfl (y_assign rfl) ?_
  refine wr_y rfl (y_assign rfl) ?_
  refine wr_nil ?_
  refine w_seq ?_
  refine w_reg ?_
  refine wr_y rfl (y_move rfl) ?_
  refine wr_y rfl (y_len Try.underlying23 rfl) ?_
  refine wr_a rfl (a_makeN Try.underlying23 zb3 rfl rfl (by omega) (by omega) (by omega)) ?_
  rintro _ _ ⟨g_1, rfl, rfl⟩
  refine wr_rows (R1 := [⟨3, 1, (some ⟨g_1, 0, none⟩), a.length, a.length, ints .i64 (List.replicate a.length (0 : Int)), false⟩]) rfl ?_
  refine wr_as (v := .slice (some ⟨g_1, 0, none⟩) a.length a.length) rfl ?_
  refine wr_y rfl (y_assign rfl) ?_
  refine wr_nil ?_
  refine w_seq ?_
  refine w_seq ?_
  refine w_reg ?_
  refine wr_y rfl (y_assign rfl) ?_
  refine wr_nil ?_
  refine w_block ?_
  refine w_loop2 (fun (q : Int) (D : List Int) => [(0, .slice A_a a.length c_a), (4, .slice (some ⟨g_1, 0, none⟩) a.length a.length), (5, .int .i64 q)]) (fun (q : Int) (D : List Int) => [⟨3, 1, (some ⟨g_1, 0, none⟩), a.length, a.length, ints .i64 D, false⟩]) (fun (q : Int) (D : List Int) => (0 ≤ q) ∧ (q ≤ a.length) ∧ (D.length = a.length) ∧ (∀ j : Int, 0 ≤ j → j < q → rd D j = -1)) (fun (q : Int) (D : List Int) => (a.length - q).toNat) ?_ ?_
  ·
    exact ⟨0, List.replicate a.length (0 : Int), ⟨(by omega), (by omega), (by rw [List.length_replicate]), (fun j h1 h2 => by omega)⟩, (Sub.cons rfl (Sub.cons rfl (Sub.cons rfl Sub.nil))), fun _ h => h⟩
  intro q D ⟨hq0, hq1, hDl, hD⟩
  refine w_seq ?_
  refine w_seq ?_
  refine w_reg ?_
  refine wr_y rfl (y_move rfl) ?_
  refine wr_y rfl (y_move rfl) ?_
  refine wr_y rfl (y_len Try.underlying23 rfl) ?_
  refine wr_y rfl (y_lt rfl rfl) ?_
  refine wr_nil ?_
  refine w_if rfl (fun hc1 => ?_) (fun hc1 => ?_)
  ·
    refine w_skip ?_
    refine w_seq ?_
    refine w_block ?_
    refine w_reg ?_
    refine wr_y rfl (y_move rfl) ?_
    refine wr_y rfl (y_move rfl) ?_
    refine wr_y rfl (y_index1 Try.underlying23 sz3 rfl rfl (rdr 0 rfl) (by omega) (by omega)) ?_
    refine wr_n (a_storeI 0 rfl sz3 rfl rfl (by omega) (by omega)) ?_
    rintro _ _ rfl
    refine wr_rows (R1 := [⟨3, 1, (some ⟨g_1, 0, none⟩), a.length, a.length, ints .i64 (upd D q (-1)), false⟩]) rfl ?_
    refine wr_nil ?_
    refine w_reg ?_
    refine wr_y rfl (y_move rfl) ?_
    refine wr_y rfl (y_addI rfl rfl (by omega)) ?_
    refine wr_y rfl (y_assign rfl) ?_
    refine wr_nil ?_
    exact ⟨q + 1, upd D q (-1), ⟨(by omega), (by omega), (by rw [upd_length]; exact hDl), (fill_step (f := fun _ => -1) hq0 (by omega) hD rfl)⟩, (by omega), (Sub.cons rfl (Sub.cons rfl (Sub.cons rfl Sub.nil))), fun _ h => h⟩
  ·
    refine w_exit ?_
    refine w_seq ?_
    refine w_seq ?_
    refine w_reg ?_
    refine wr_y rfl (y_assign rfl) ?_
    refine wr_nil ?_
    refine w_block ?_
    refine w_loop2 (fun (i : Int) (D : List Int) => [(0, .slice A_a a.length c_a), (4, .slice (some ⟨g_1, 0, none⟩) a.length a.length), (6, .int .i64 i)]) (fun (i : Int) (D : List Int) => [⟨3, 1, (some ⟨g_1, 0, none⟩), a.length, a.length, ints .i64 D, false⟩]) (fun (i : Int) (D : List Int) => (0 ≤ i) ∧ (i ≤ a.length) ∧ (D.length = a.length) ∧ (∀ x : Int, 0 ≤ x → x < a.length → (0 ≤ rd D x ↔ x ∈ a.take i.toNat)) ∧ ((a.take i.toNat).Nodup) ∧ (∀ x ∈ a.take i.toNat, 0 ≤ x ∧ x < a.length)) (fun (i : Int) (D : List Int) => (a.length - i).toNat) ?_ ?_
    ·
      exact ⟨0, D, ⟨(by omega), (by omega), (hDl), (fun x h0 h1 => by rw [hD x h0 (by omega)]; simp), (.nil), (fun x hx => by cases hx)⟩, (Sub.cons rfl (Sub.cons rfl (Sub.cons rfl Sub.nil))), fun _ h => h⟩
    intro i D ⟨hi0, hi1, hDl, hE, hn, hr⟩
    refine w_seq ?_
    refine w_seq ?_
    refine w_reg ?_
    refine wr_y rfl (y_move rfl) ?_
    refine wr_y rfl (y_move rfl) ?_
    refine wr_y rfl (y_len Try.underlying23 rfl) ?_
    refine wr_y rfl (y_lt rfl rfl) ?_
    refine wr_nil ?_
    refine w_if rfl (fun hc2 => ?_) (fun hc2 => ?_)
    ·
      refine w_skip ?_
      refine w_seq ?_
      refine w_block ?_
      refine w_seq ?_
      refine w_seq ?_
      refine w_reg ?_
      refine wr_y rfl (y_move rfl) ?_
      refine wr_y rfl (y_move rfl) ?_
      refine wr_y rfl (y_index1 Try.underlying23 sz3 rfl rfl (h_a.c _) (by omega) (by omega)) ?_
      refine wr_y rfl (y_ldI Try.underlying3 rfl rfl (h_a.c _) (by omega) (by omega)) ?_
      refine wr_y rfl (y_lt rfl rfl) ?_
      refine wr_y rfl (y_move rfl) ?_
      refine wr_mid 8 [(0, .slice A_a a.length c_a), (4, .slice (some ⟨g_1, 0, none⟩) a.length a.length), (6, .int .i64 i), (38, .bool (decide (((rd a i) < 0) ∨ (((a.length : Nat) : Int) ≤ (rd a i)))))] [⟨3, 1, (some ⟨g_1, 0, none⟩), a.length, a.length, ints .i64 D, false⟩] ?_ ?_
      ·
        refine wr_case 30 rfl (fun hc3 => ?_) (fun hc3 => ?_)
        ·
          refine wr_no rfl rfl rfl rfl ?_
          refine wr_no rfl rfl rfl rfl ?_
          refine wr_no rfl rfl rfl rfl ?_
          refine wr_no rfl rfl rfl rfl ?_
          refine wr_no rfl rfl rfl rfl ?_
          refine wr_no rfl rfl rfl rfl ?_
          refine wr_no rfl rfl rfl rfl ?_
          refine wr_y rfl (y_pickT rfl rfl) ?_
          refine wr_nil ?_
          exact ⟨(Sub.cons rfl (Sub.cons rfl (Sub.cons rfl (Sub.to rfl (mb_t (by first | omega | exact ⟨fun h => ⟨(by assumption), h⟩, fun h => h.2⟩ | simp [*])) Sub.nil)))), fun _ h => h⟩
        ·
          refine wr_yes rfl rfl ?_
          refine wr_y rfl (y_move rfl) ?_
          refine wr_yes rfl rfl ?_
          refine wr_y rfl (y_move rfl) ?_
          refine wr_yes rfl rfl ?_
          refine wr_y rfl (y_index1 Try.underlying23 sz3 rfl rfl (h_a.c _) (by omega) (by omega)) ?_
          refine wr_yes rfl rfl ?_
          refine wr_y rfl (y_ldI Try.underlying3 rfl rfl (h_a.c _) (by omega) (by omega)) ?_
          refine wr_yes rfl rfl ?_
          refine wr_y rfl (y_move rfl) ?_
          refine wr_yes rfl rfl ?_
          refine wr_y rfl (y_len Try.underlying23 rfl) ?_
          refine wr_yes rfl rfl ?_
          refine wr_y rfl (y_ge rfl rfl) ?_
          refine wr_y rfl (y_pickF rfl rfl) ?_
          refine wr_nil ?_
          exact ⟨(Sub.cons rfl (Sub.cons rfl (Sub.cons rfl (Sub.to rfl (mb (by first | omega | exact ⟨fun h => ⟨(by assumption), h⟩, fun h => h.2⟩ | simp [*])) Sub.nil)))), fun _ h => h⟩
      refine wr_y rfl (y_move rfl) ?_
      refine wr_mid 9 [(0, .slice A_a a.length c_a), (4, .slice (some ⟨g_1, 0, none⟩) a.length a.length), (6, .int .i64 i), (48, .bool (decide ((((rd a i) < 0) ∨ (((a.length : Nat) : Int) ≤ (rd a i))) ∨ (0 ≤ (rd D (rd a i))))))] [⟨3, 1, (some ⟨g_1, 0, none⟩), a.length, a.length, ints .i64 D, false⟩] ?_ ?_
      ·
        refine wr_case 39 rfl (fun hc4 => ?_) (fun hc4 => ?_)
        ·
          refine wr_no rfl rfl rfl rfl ?_
          refine wr_no rfl rfl rfl rfl ?_
          refine wr_no rfl rfl rfl rfl ?_
          refine wr_no rfl rfl rfl rfl ?_
          refine wr_no rfl rfl rfl rfl ?_
          refine wr_no rfl rfl rfl rfl ?_
          refine wr_no rfl rfl rfl rfl ?_
          refine wr_no rfl rfl rfl rfl ?_
          refine wr_y rfl (y_pickT rfl rfl) ?_
          refine wr_nil ?_
          exact ⟨(Sub.cons rfl (Sub.cons rfl (Sub.cons rfl (Sub.to rfl (mb_t (by first | omega | exact ⟨fun h => ⟨(by assumption), h⟩, fun h => h.2⟩ | simp [*])) Sub.nil)))), fun _ h => h⟩
        ·
          refine wr_yes rfl rfl ?_
          refine wr_y rfl (y_move rfl) ?_
          refine wr_yes rfl rfl ?_
          refine wr_y rfl (y_move rfl) ?_
          refine wr_yes rfl rfl ?_
          refine wr_y rfl (y_move rfl) ?_
          refine wr_yes rfl rfl ?_
          refine wr_y rfl (y_index1 Try.underlying23 sz3 rfl rfl (h_a.c _) (by omega) (by omega)) ?_
          refine wr_yes rfl rfl ?_
          refine wr_y rfl (y_ldI Try.underlying3 rfl rfl (h_a.c _) (by omega) (by omega)) ?_
          refine wr_yes rfl rfl ?_
          refine wr_y rfl (y_index1 Try.underlying23 sz3 rfl rfl (rdr 0 rfl) (by omega) (by omega)) ?_
          refine wr_yes rfl rfl ?_
          refine wr_y rfl (y_ldI Try.underlying3 rfl rfl (rdr 0 rfl) (by omega) (by omega)) ?_
          refine wr_yes rfl rfl ?_
          refine wr_y rfl (y_ge rfl rfl) ?_
          refine wr_y rfl (y_pickF rfl rfl) ?_
          refine wr_nil ?_
          exact ⟨(Sub.cons rfl (Sub.cons rfl (Sub.cons rfl (Sub.to rfl (mb (by first | omega | exact ⟨fun h => ⟨(by assumption), h⟩, fun h => h.2⟩ | simp [*])) Sub.nil)))), fun _ h => h⟩
      refine wr_nil ?_
      refine w_if rfl (fun hc5 => ?_) (fun hc5 => ?_)
      ·
        refine w_seq ?_
        refine w_reg ?_
        refine wr_y rfl (y_assign rfl) ?_
        refine wr_y rfl (y_assign rfl) ?_
        refine wr_nil ?_
        refine w_retR (R1 := []) (fun _ h => h.sel [] (by decide) rfl) ?_
        refine ⟨_, _, rfl, rfl, ?_⟩
        rfl
      ·
        have ha : 0 ≤ rd a i ∧ rd a i < a.length := ⟨by have h1 := fun h => hc5 (.inl (.inl h)); omega, by have h2 := fun h => hc5 (.inl (.inr h)); omega⟩
        have hnx : rd a i ∉ a.take i.toNat := fun h => hc5 (.inr ((hE _ ha.1 ha.2).2 h))
        refine w_skip ?_
        refine w_reg ?_
        refine wr_y rfl (y_move rfl) ?_
        refine wr_y rfl (y_move rfl) ?_
        refine wr_y rfl (y_move rfl) ?_
        refine wr_y rfl (y_index1 Try.underlying23 sz3 rfl rfl (h_a.c _) (by omega) (by omega)) ?_
        refine wr_y rfl (y_ldI Try.underlying3 rfl rfl (h_a.c _) (by omega) (by omega)) ?_
        refine wr_y rfl (y_move rfl) ?_
        refine wr_y rfl (y_index1 Try.underlying23 sz3 rfl rfl (rdr 0 rfl) (by omega) (by omega)) ?_
        refine wr_n (a_storeI 0 rfl sz3 rfl rfl (by omega) (by omega)) ?_
        rintro _ _ rfl
        refine wr_rows (R1 := [⟨3, 1, (some ⟨g_1, 0, none⟩), a.length, a.length, ints .i64 (upd D (rd a i) i), false⟩]) rfl ?_
        refine wr_nil ?_
        refine w_reg ?_
        refine wr_y rfl (y_move rfl) ?_
        refine wr_y rfl (y_addI rfl rfl (by omega)) ?_
        refine wr_y rfl (y_assign rfl) ?_
        refine wr_nil ?_
        exact ⟨i + 1, upd D (rd a i) i, ⟨(by omega), (by omega), (by rw [upd_length]; exact hDl), (inv_no_step hi0 (by omega) hDl ha hE), (by rw [take_rd hi0 (by omega)]; exact List.nodup_append.2 ⟨hn, by simp, fun x hx y hy e => by obtain rfl := List.mem_singleton.1 hy; subst e; exact hnx hx⟩), (by rw [take_rd hi0 (by omega)]; intro x hx; rcases List.mem_append.1 hx with hx | hx; exact hr x hx; obtain rfl := List.mem_singleton.1 hx; exact ha)⟩, (by omega), (Sub.cons rfl (Sub.cons rfl (Sub.cons rfl Sub.nil))), fun _ h => h⟩
    ·
      refine w_exit ?_
      refine w_seq ?_
      refine w_reg ?_
      refine wr_y rfl (y_move rfl) ?_
      refine wr_y rfl (y_assign rfl) ?_
      refine wr_y rfl (y_assign rfl) ?_
      refine wr_nil ?_
      refine w_retR (R1 := []) (fun _ h => h.sel [] (by decide) rfl) ?_
      refine ⟨_, _, rfl, rfl, ?_⟩
      exact absurd (bperm_of (by rw [List.take_of_length_le (by omega)] at hn; exact hn) (by rw [List.take_of_length_le (by omega)] at hr; exact hr)) hnp

/-! whorl/whorlref16.Is -/
set_option maxRecDepth 100000 in
theorem is16No_ct {w : World} {A_a : Option Addr} {n_a c_a : Nat} {a : List Int} (h_a : Rd w A_a n_a c_a 1 (ints .i64 a)) (hnp : ¬ a.Perm (iota a.length)) (hN : a.length ≤ 1000000) :
    Ct Try.prog 26 #[.slice A_a n_a c_a] w.heap.size w [] (fun v R' => v = .bool false) := by
  obtain rfl := h_a.lenI
  refine fn1 Try.func26 rfl rfl rfl ?_
  have m_a := h_a.max
  refine w_seq ?_
  refine w_reg ?_
  refine wr_y rfl (y_assign rfl) ?_
  refine wr_nil ?_
  refine w_seq ?_
  refine w_reg ?_
  refine wr_y rfl (y_move rfl) ?_
  refine wr_a rfl (a_callF en40 rfl (Ct.quiet (fun w hw => inv16No_ct ((h_a.c _) w hw) hnp hN))) ?_
  rintro _ _ ⟨rfl, rfl⟩
  refine wr_y rfl (y_move rfl) ?_
  refine wr_y rfl (y_extract rfl rfl) ?_
  refine wr_y rfl (y_extract rfl rfl) ?_
  refine wr_y rfl (y_assign rfl) ?_
  refine wr_y rfl (y_assign rfl) ?_
  refine wr_nil ?_
  refine w_seq ?_
  refine w_reg ?_
  refine wr_y rfl (y_move rfl) ?_
  refine wr_y rfl (y_assign rfl) ?_
  refine wr_nil ?_
  refine w_ret ?_
  refine ⟨_, rfl, ?_⟩
  rfl

/-! whorl/whorlref21.Of -/
set_option maxRecDepth 100000 in
set_option maxHeartbeats 800000 in
theorem rof_ct {w : World} {A_u : Option Addr} {n_u c_u : Nat} {u : List Int} {A_a : Option Addr} {n_a c_a : Nat} {a : List Int} (h_u : Rd w A_u n_u c_u 1 (ints .u8 u)) (h_a : Rd w A_a n_a c_a 1 (ints .i64 a)) (hp : a.Perm (iota u.length)) (hN : u.length ≤ 1000000) :
    Ct Try.prog 12 #[.slice A_u n_u c_u, .slice A_a n_a c_a] w.heap.size w [] (fun v R' => ∃ A c, v = .tuple #[.slice A (ofL u a).length c, .int .i64 (zat a), .bool true] ∧ R' = [⟨5, 1, A, (ofL u a).length, c, ints .u8 (ofL u a), false⟩]) := by
  obtain rfl := h_u.lenI
  obtain rfl := h_a.lenI
  refine fn3 Try.func12 rfl rfl rfl ?_
  have m_u := h_u.max
  have m_a := h_a.max
  have hal0 : a.length = u.length := by rw [hp.length_eq, iota_len]
  have hnd : a.Nodup := hp.symm.nodup (iota_nodup _)
  have hpa : a.Perm (iota a.length) := by rw [hal0]; exact hp
  refine w_seq ?_
  refine w_reg ?_
  refine wr_sub (R1 := [⟨5, 1, none, 0, 0, ints .u8 ([]), false⟩]) (Sub.refl _) (fun _ h => h.nil 5 1) ?_
  refine wr_y rfl (y_assign rfl) ?_
  refine wr_y rfl (y_assign rfl) ?_
  refine wr_y rfl (y_assign rfl) ?_
  refine wr_nil ?_
  refine w_seq ?_
  refine w_seq ?_
  refine w_reg ?_
  refine wr_y rfl (y_move rfl) ?_
  refine wr_y rfl (y_len Try.underlying23 rfl) ?_
  refine wr_y rfl (y_move rfl) ?_
  refine wr_y rfl (y_len Try.underlying22 rfl) ?_
  refine wr_y rfl (Yl.f (y_ne rfl rfl) (by omega)) ?_
  refine wr_y rfl (y_move rfl) ?_
  refine wr_yes rfl rfl ?_
  refine wr_y rfl (y_move rfl) ?_
  refine wr_yes rfl rfl ?_
  refine wr_a rfl (a_callF en26 rfl (Ct.quiet (fun w hw => is16_ct ((h_a.c _) w hw) hpa (by omega)))) ?_
  rintro _ _ ⟨rfl, rfl⟩
  refine wr_yes rfl rfl ?_
  refine wr_y rfl (y_not rfl) ?_
  refine wr_y rfl (y_pickF rfl rfl) ?_
  refine wr_nil ?_
  refine w_false rfl ?_
  refine w_skip ?_
  refine w_seq ?_
  refine w_seq ?_
  refine w_reg ?_
  refine wr_y rfl (y_move rfl) ?_
  refine wr_y rfl (y_len Try.underlying22 rfl) ?_
  refine wr_y rfl (y_eq rfl rfl) ?_
  refine wr_nil ?_
  refine w_if rfl (fun hc1 => ?_) (fun hc1 => ?_)
  ·
    refine w_seq ?_
    refine w_reg ?_
    refine wr_y rfl (y_assign rfl) ?_
    refine wr_y rfl (y_assign rfl) ?_
    refine wr_y rfl (y_assign rfl) ?_
    refine wr_nil ?_
    refine w_retR (R1 := [⟨5, 1, none, 0, 0, ints .u8 ([]), false⟩]) (fun _ h => h.sel [0] (by decide) rfl) ?_
    refine ⟨_, _, _, rfl, rfl, rfl, ?_⟩
    have e := ofL_nil (u := u) (a := a) (by omega) (by omega)
    rw [e.1, e.2]
    exact ⟨none, 0, rfl, rfl⟩
  ·
    refine w_skip ?_
    refine w_seq ?_
    refine w_reg ?_
    refine wr_y rfl (y_move rfl) ?_
    refine wr_y rfl (y_move rfl) ?_
    refine wr_y rfl (y_len Try.underlying22 rfl) ?_
    refine wr_y rfl (y_subI rfl rfl (by omega)) ?_
    refine wr_y rfl (y_index1 Try.underlying22 sz5 rfl rfl (h_u.c _) (by omega) (by omega)) ?_
    refine wr_y rfl (y_ldI Try.underlying5 rfl rfl (h_u.c _) (by omega) (by omega)) ?_
    refine wr_a rfl (a_litI .u8 [rd u (((u.length : Nat) : Int) - 1)] Try.underlying22 zs5 rfl rfl rfl) ?_
    rintro _ _ ⟨g_2, rfl, rfl⟩
    refine wr_y rfl (y_assign rfl) ?_
    refine wr_nil ?_
    refine w_seq ?_
    refine w_reg ?_
    refine wr_y rfl (y_assign rfl) ?_
    refine wr_nil ?_
    refine w_seq ?_
    refine w_seq ?_
    refine w_reg ?_
    refine wr_y rfl (y_assign rfl) ?_
    refine wr_nil ?_
    refine w_block ?_
    refine w_loop6 (fun (i : Int) (A1 : Option Addr) (n1 : Nat) (c1 : Nat) (acc : List Int) (m : Int) => [(0, .slice A_u u.length c_u), (1, .slice A_a a.length c_a), (7, .slice A1 n1 c1), (8, .int .i64 m), (9, .int .i64 i)]) (fun (i : Int) (A1 : Option Addr) (n1 : Nat) (c1 : Nat) (acc : List Int) (m : Int) => [⟨5, 1, A1, n1, c1, ints .u8 acc, false⟩, ⟨5, 1, none, 0, 0, ints .u8 ([]), false⟩]) (fun (i : Int) (A1 : Option Addr) (n1 : Nat) (c1 : Nat) (acc : List Int) (m : Int) => (0 ≤ i) ∧ (i ≤ a.length) ∧ (n1 = acc.length) ∧ (acc = (if 0 < u.length then [rd u (u.length - 1)] else []) ++ ofT u (a.take i.toNat)) ∧ (m = zat (a.take i.toNat))) (fun (i : Int) (A1 : Option Addr) (n1 : Nat) (c1 : Nat) (acc : List Int) (m : Int) => (a.length - i).toNat) ?_ ?_
    ·
      exact ⟨0, some ⟨g_2, 0, none⟩, 1, 1, [rd u (((u.length : Nat) : Int) - 1)], 0, ⟨(by omega), (by omega), (by first | rfl | simp), (by first | (rw [if_pos (by omega)]; rfl) | (rw [if_neg (by omega)]; rfl)), (rfl)⟩, (Sub.cons rfl (Sub.cons rfl (Sub.cons rfl (Sub.cons rfl (Sub.cons rfl Sub.nil))))), fun _ h => h⟩
    intro i A1 n1 c1 acc m ⟨hi0, hi1, hn1, hacc, hm⟩
    have hal : acc.length ≤ i.toNat + 1 := by
      have h1 := ofT_len u (a.take i.toNat)
      rw [List.length_take] at h1
      rw [hacc, List.length_append]
      split <;> simp only [List.length_cons, List.length_nil] <;> omega
    have hai : i < a.length → 0 ≤ rd a i ∧ rd a i < u.length := fun h => mem_iota.1 (hp.subset (rd_mem hi0 h))
    refine w_seq ?_
    refine w_seq ?_
    refine w_reg ?_
    refine wr_y rfl (y_move rfl) ?_
    refine wr_y rfl (y_move rfl) ?_
    refine wr_y rfl (y_len Try.underlying23 rfl) ?_
    refine wr_y rfl (y_lt rfl rfl) ?_
    refine wr_nil ?_
    refine w_if rfl (fun hc2 => ?_) (fun hc2 => ?_)
    ·
      have hai2 := hai (by omega)
      refine w_skip ?_
      refine w_seq ?_
      refine w_block ?_
      refine w_seq ?_
      refine w_seq ?_
      refine w_reg ?_
      refine wr_y rfl (y_move rfl) ?_
      refine wr_y rfl (y_move rfl) ?_
      refine wr_y rfl (y_index1 Try.underlying23 sz3 rfl rfl (h_a.c _) (by omega) (by omega)) ?_
      refine wr_y rfl (y_ldI Try.underlying3 rfl rfl (h_a.c _) (by omega) (by omega)) ?_
      refine wr_y rfl (y_eq rfl rfl) ?_
      refine wr_nil ?_
      refine w_if rfl (fun hc3 => ?_) (fun hc3 => ?_)
      ·
        refine w_seq ?_
        refine w_reg ?_
        refine wr_y rfl (y_move rfl) ?_
        refine wr_y rfl (y_addI rfl rfl (by omega)) ?_
        refine wr_y rfl (y_assign rfl) ?_
        refine wr_nil ?_
        refine w_exit ?_
        refine w_reg ?_
        refine wr_y rfl (y_move rfl) ?_
        refine wr_y rfl (y_addI rfl rfl (by omega)) ?_
        refine wr_y rfl (y_assign rfl) ?_
        refine wr_nil ?_
        exact ⟨i + 1, A1, n1, c1, acc, i + 1, ⟨(by omega), (by omega), (hn1), (ofT_yes hi0 (by omega) hacc (by assumption)), (zat_yes hnd hi0 (by omega) (by assumption))⟩, (by omega), (Sub.cons rfl (Sub.cons rfl (Sub.cons rfl (Sub.cons rfl (Sub.cons rfl Sub.nil))))), fun _ h => h⟩
      ·
        refine w_skip ?_
        refine w_reg ?_
        refine wr_y rfl (y_move rfl) ?_
        refine wr_y rfl (y_move rfl) ?_
        refine wr_y rfl (y_move rfl) ?_
        refine wr_y rfl (y_move rfl) ?_
        refine wr_y rfl (y_index1 Try.underlying23 sz3 rfl rfl (h_a.c _) (by omega) (by omega)) ?_
        refine wr_y rfl (y_ldI Try.underlying3 rfl rfl (h_a.c _) (by omega) (by omega)) ?_
        refine wr_y rfl (y_subI rfl rfl (by omega)) ?_
        refine wr_y rfl (y_index1 Try.underlying22 sz5 rfl rfl (h_u.c _) (by omega) (by omega)) ?_
        refine wr_y rfl (y_ldI Try.underlying5 rfl rfl (h_u.c _) (by omega) (by omega)) ?_
        refine wr_a rfl (a_litI .u8 [rd u ((rd a i) - 1)] Try.underlying22 zs5 rfl rfl rfl) ?_
        rintro _ _ ⟨g_5, rfl, rfl⟩
        refine wr_a rfl (a_appendI 1 rfl Try.underlying22 zb5 rfl rfl rfl (rdr 0 rfl) (by omega)) ?_
        rintro _ _ ⟨A_6, c_7, rfl, rfl⟩
        refine wr_rows (R1 := [⟨5, 1, (some ⟨g_5, 0, none⟩), 1, 1, ints .u8 ([rd u ((rd a i) - 1)]), false⟩, ⟨5, 1, A_6, (n1 + 1), c_7, ints .u8 (acc ++ ([rd u ((rd a i) - 1)])), false⟩, ⟨5, 1, none, 0, 0, ints .u8 ([]), false⟩]) rfl ?_
        refine wr_as (v := .slice A_6 (n1 + 1) c_7) rfl ?_
        refine wr_y rfl (y_assign rfl) ?_
        refine wr_nil ?_
        refine w_reg ?_
        refine wr_y rfl (y_move rfl) ?_
        refine wr_y rfl (y_addI rfl rfl (by omega)) ?_
        refine wr_y rfl (y_assign rfl) ?_
        refine wr_nil ?_
        exact ⟨i + 1, A_6, n1 + 1, c_7, acc ++ ([rd u ((rd a i) - 1)]), m, ⟨(by omega), (by omega), (by rw [List.length_append, hn1]; rfl), (ofT_no hi0 (by omega) hacc (by assumption)), (zat_no hnd hi0 (by omega) hm (by assumption))⟩, (by omega), (Sub.cons rfl (Sub.cons rfl (Sub.cons rfl (Sub.cons rfl (Sub.cons rfl Sub.nil))))), fun _ h => h.sel [1, 2] (by decide) rfl⟩
    ·
      refine w_exit ?_
      refine w_seq ?_
      refine w_reg ?_
      refine wr_y rfl (y_move rfl) ?_
      refine wr_y rfl (y_move rfl) ?_
      refine wr_y rfl (y_assign rfl) ?_
      refine wr_y rfl (y_assign rfl) ?_
      refine wr_y rfl (y_assign rfl) ?_
      refine wr_nil ?_
      refine w_retR (R1 := [⟨5, 1, A1, n1, c1, ints .u8 acc, false⟩]) (fun _ h => h.sel [0] (by decide) rfl) ?_
      refine ⟨_, _, _, rfl, rfl, rfl, ?_⟩
      have hte : a.take i.toNat = a := List.take_of_length_le (by omega)
      rw [hte] at hacc hm
      obtain rfl : acc = ofL u a := hacc
      obtain rfl := hn1
      subst hm
      exact ⟨_, _, rfl, rfl⟩

/-! whorl/whorlref21.Of -/
set_option maxRecDepth 100000 in
theorem rofNo_ct {w : World} {A_u : Option Addr} {n_u c_u : Nat} {u : List Int} {A_a : Option Addr} {n_a c_a : Nat} {a : List Int} (h_u : Rd w A_u n_u c_u 1 (ints .u8 u)) (h_a : Rd w A_a n_a c_a 1 (ints .i64 a)) (hnp : ¬ a.Perm (iota u.length)) (hN : u.length ≤ 1000000) :
    Ct Try.prog 12 #[.slice A_u n_u c_u, .slice A_a n_a c_a] w.heap.size w [] (fun v R' => v = .tuple #[.slice none 0 0, .int .i64 0, .bool false]) := by
  obtain rfl := h_u.lenI
  obtain rfl := h_a.lenI
  refine fn3 Try.func12 rfl rfl rfl ?_
  have m_u := h_u.max
  have m_a := h_a.max
  refine w_seq ?_
  refine w_reg ?_
  refine wr_y rfl (y_assign rfl) ?_
  refine wr_y rfl (y_assign rfl) ?_
  refine wr_y rfl (y_assign rfl) ?_
  refine wr_nil ?_
  refine w_seq ?_
  refine w_seq ?_
  refine w_reg ?_
  refine wr_y rfl (y_move rfl) ?_
  refine wr_y rfl (y_len Try.underlying23 rfl) ?_
  refine wr_y rfl (y_move rfl) ?_
  refine wr_y rfl (y_len Try.underlying22 rfl) ?_
  refine wr_y rfl (y_ne rfl rfl) ?_
  refine wr_y rfl (y_move rfl) ?_
  refine wr_mid 4 [(0, .slice A_u u.length c_u), (1, .slice A_a a.length c_a), (19, .bool true)] [] ?_ ?_
  ·
    refine wr_case 15 rfl (fun hc1 => ?_) (fun hc1 => ?_)
    ·
      refine wr_no rfl rfl rfl rfl ?_
      refine wr_no rfl rfl rfl rfl ?_
      refine wr_no rfl rfl rfl rfl ?_
      refine wr_y rfl (y_pickT rfl rfl) ?_
      refine wr_nil ?_
      exact ⟨(Sub.cons rfl (Sub.cons rfl (Sub.cons rfl Sub.nil))), fun _ h => h⟩
    ·
      refine wr_yes rfl rfl ?_
      refine wr_y rfl (y_move rfl) ?_
      refine wr_yes rfl rfl ?_
      refine wr_a rfl (a_callF en26 rfl (Ct.quiet (fun w hw => is16No_ct ((h_a.c _) w hw) (fun h => hnp (by have e : a.length = u.length := (by omega); rw [← e]; exact h)) (by omega)))) ?_
      rintro _ _ ⟨rfl, rfl⟩
      refine wr_yes rfl rfl ?_
      refine wr_y rfl (y_not rfl) ?_
      refine wr_y rfl (y_pickF rfl rfl) ?_
      refine wr_nil ?_
      exact ⟨(Sub.cons rfl (Sub.cons rfl (Sub.cons rfl Sub.nil))), fun _ h => h⟩
  refine wr_nil ?_
  refine w_true rfl ?_
  refine w_seq ?_
  refine w_reg ?_
  refine wr_y rfl (y_assign rfl) ?_
  refine wr_y rfl (y_assign rfl) ?_
  refine wr_y rfl (y_assign rfl) ?_
  refine wr_nil ?_
  refine w_ret ?_
  refine ⟨_, _, _, rfl, rfl, rfl, ?_⟩
  rfl

/-! whorl/whorlref21.Turn -/
set_option maxRecDepth 100000 in
theorem rturn_ct {w : World} {A_u : Option Addr} {n_u c_u : Nat} {u : List Int} (h_u : Rd w A_u n_u c_u 1 (ints .u8 u)) (bh_u : ByteL u) (hN : u.length ≤ 100000) :
    Ct Try.prog 15 #[.slice A_u n_u c_u] w.heap.size w [] (fun v R' => ∃ (b : List Int) (A : Option Addr) (c : Nat), v = .tuple #[.slice A (ofL u b).length c, .int .i64 (zat b)] ∧ b.Perm (iota u.length) ∧ b.Pairwise (ordE u) ∧ R' = [⟨5, 1, A, (ofL u b).length, c, ints .u8 (ofL u b), false⟩]) := by
  obtain rfl := h_u.lenI
  refine fn2 Try.func15 rfl rfl rfl ?_
  have m_u := h_u.max
  refine w_seq ?_
  refine w_reg ?_
  refine wr_y rfl (y_assign rfl) ?_
  refine wr_y rfl (y_assign rfl) ?_
  refine wr_nil ?_
  refine w_seq ?_
  refine w_reg ?_
  refine wr_y rfl (y_move rfl) ?_
  refine wr_y rfl (y_move rfl) ?_
  refine wr_a rfl (a_callF en22 rfl (Ct.fresh (fun w hw => bytes13_ct ((h_u.c _) w hw) bh_u (by omega)))) ?_
  rintro _ _ ⟨_, rfl, b1, A_1, c_2, rfl, hp_b1, hs_b1, rfl⟩
  refine wr_a rfl (a_callF en12 rfl (Ct.fresh (fun w hw => rof_ct ((h_u.c _) w hw) ((rdr 0 rfl) w hw) hp_b1 (by omega)))) ?_
  rintro _ _ ⟨_, rfl, A_4, c_5, rfl, rfl⟩
  refine wr_y rfl (y_move rfl) ?_
  refine wr_y rfl (y_extract rfl rfl) ?_
  refine wr_y rfl (y_extract rfl rfl) ?_
  refine wr_y rfl (y_extract rfl rfl) ?_
  refine wr_y rfl (y_assign rfl) ?_
  refine wr_y rfl (y_assign rfl) ?_
  refine wr_y rfl (y_assign rfl) ?_
  refine wr_nil ?_
  refine w_seq ?_
  refine w_reg ?_
  refine wr_y rfl (y_move rfl) ?_
  refine wr_y rfl (y_move rfl) ?_
  refine wr_y rfl (y_assign rfl) ?_
  refine wr_y rfl (y_assign rfl) ?_
  refine wr_nil ?_
  refine w_retR (R1 := [⟨5, 1, A_4, (ofL u b1).length, c_5, ints .u8 (ofL u b1), false⟩]) (fun _ h => h.sel [0] (by decide) rfl) ?_
  refine ⟨_, _, rfl, rfl, ?_⟩
  exact ⟨b1, _, _, rfl, hp_b1, hs_b1, rfl⟩

/-! whorl/whorlref21.Back -/
set_option maxRecDepth 100000 in
set_option maxHeartbeats 1500000 in
theorem rback_ct {w : World} {A_u : Option Addr} {n_u c_u : Nat} {u : List Int} {m : Int} (h_u : Rd w A_u n_u c_u 1 (ints .u8 u)) (bh_u : ByteL u) (hok : BkOk u m) (hN : u.length ≤ 100000) :
    Ct Try.prog 17 #[.slice A_u n_u c_u, .int .i64 m] w.heap.size w [] (fun v R' => ∃ A c, v = .tuple #[.slice A u.length c, .int .i64 0] ∧ R' = [⟨5, 1, A, u.length, c, ints .u8 (bkOut u m), false⟩]) := by
  obtain rfl := h_u.lenI
  refine fn2 Try.func17 rfl rfl rfl ?_
  have m_u := h_u.max
  have hpre := hok.1
  have hp1 := hok.1.1
  have hp2 := hok.1.2
  have hon0 := hok.2.1
  refine w_seq ?_
  refine w_reg ?_
  refine wr_y rfl (y_assign rfl) ?_
  refine wr_y rfl (y_assign rfl) ?_
  refine wr_nil ?_
  refine w_seq ?_
  refine w_reg ?_
  refine wr_y rfl (y_move rfl) ?_
  refine wr_y rfl (y_len Try.underlying22 rfl) ?_
  refine wr_y rfl (y_assign rfl) ?_
  refine wr_nil ?_
  refine w_seq ?_
  refine w_seq ?_
  refine w_reg ?_
  refine wr_y rfl (y_move rfl) ?_
  refine wr_y rfl (Yl.f (y_lt rfl rfl) (by omega)) ?_
  refine wr_y rfl (y_move rfl) ?_
  refine wr_yes rfl rfl ?_
  refine wr_y rfl (y_move rfl) ?_
  refine wr_yes rfl rfl ?_
  refine wr_y rfl (y_move rfl) ?_
  refine wr_yes rfl rfl ?_
  refine wr_y rfl (Yl.f (y_gt rfl rfl) (by omega)) ?_
  refine wr_y rfl (y_pickF rfl rfl) ?_
  refine wr_y rfl (y_move rfl) ?_
  refine wr_yes rfl rfl ?_
  refine wr_y rfl (y_move rfl) ?_
  refine wr_yes rfl rfl ?_
  refine wr_y rfl (y_gt rfl rfl) ?_
  refine wr_yes rfl rfl ?_
  refine wr_y rfl (y_move rfl) ?_
  refine wr_mid 3 [(0, .slice A_u u.length c_u), (1, .int .i64 m), (6, .int .i64 ((u.length : Nat) : Int)), (23, .bool false), (29, .bool (decide ((0 < ((u.length : Nat) : Int)) ∧ (m = 0))))] [] ?_ ?_
  ·
    refine wr_case 26 rfl (fun hc1 => ?_) (fun hc1 => ?_)
    ·
      refine wr_yes rfl rfl ?_
      refine wr_y rfl (y_move rfl) ?_
      refine wr_yes rfl rfl ?_
      refine wr_y rfl (y_eq rfl rfl) ?_
      refine wr_yes rfl rfl ?_
      refine wr_y rfl (y_pickT rfl rfl) ?_
      refine wr_nil ?_
      exact ⟨(Sub.cons rfl (Sub.cons rfl (Sub.cons rfl (Sub.cons rfl (Sub.to rfl (mb (by first | omega | exact ⟨fun h => ⟨(by assumption), h⟩, fun h => h.2⟩ | simp [*])) Sub.nil))))), fun _ h => h⟩
    ·
      refine wr_no rfl rfl rfl rfl ?_
      refine wr_no rfl rfl rfl rfl ?_
      refine wr_yes rfl rfl ?_
      refine wr_y rfl (y_pickF rfl rfl) ?_
      refine wr_nil ?_
      exact ⟨(Sub.cons rfl (Sub.cons rfl (Sub.cons rfl (Sub.cons rfl (Sub.to rfl (mb_f (by first | omega | exact ⟨fun h => ⟨(by assumption), h⟩, fun h => h.2⟩ | simp [*])) Sub.nil))))), fun _ h => h⟩
  refine wr_setF 29 rfl (by omega) ?_
  refine wr_y rfl (y_pickF rfl rfl) ?_
  refine wr_nil ?_
  refine w_false rfl ?_
  refine w_skip ?_
  refine w_seq ?_
  refine w_reg ?_
  refine wr_y rfl (y_move rfl) ?_
  refine wr_a rfl (a_makeN Try.underlying22 zb5 rfl rfl (by omega) (by omega) (by omega)) ?_
  rintro _ _ ⟨g_1, rfl, rfl⟩
  refine wr_rows (R1 := [⟨5, 1, (some ⟨g_1, 0, none⟩), u.length, u.length, ints .u8 (List.replicate u.length (0 : Int)), false⟩]) rfl ?_
  refine wr_as (v := .slice (some ⟨g_1, 0, none⟩) u.length u.length) rfl ?_
  refine wr_y rfl (y_assign rfl) ?_
  refine wr_nil ?_
  refine w_seq ?_
  refine w_reg ?_
  refine wr_y rfl (y_assign rfl) ?_
  refine wr_nil ?_
  refine w_seq ?_
  refine w_seq ?_
  refine w_reg ?_
  refine wr_y rfl (y_move rfl) ?_
  refine wr_y rfl (y_subI rfl rfl (by omega)) ?_
  refine wr_y rfl (y_assign rfl) ?_
  refine wr_nil ?_
  refine w_block ?_
  refine w_loop3 (fun (k : Int) (r : Int) (S : List Int) => [(0, .slice A_u u.length c_u), (1, .int .i64 m), (6, .int .i64 ((u.length : Nat) : Int)), (7, .slice (some ⟨g_1, 0, none⟩) u.length u.length), (8, .int .i64 r), (9, .int .i64 k)]) (fun (k : Int) (r : Int) (S : List Int) => [⟨5, 1, (some ⟨g_1, 0, none⟩), u.length, u.length, ints .u8 S, false⟩]) (fun (k : Int) (r : Int) (S : List Int) => (-1 ≤ k) ∧ (k < u.length) ∧ (S.length = u.length) ∧ (r = bkRow u m (u.length - 1 - k).toNat) ∧ (∀ t : Nat, (t : Int) < u.length - 1 - k → bkRow u m t ≠ m) ∧ (∀ j : Int, k < j → j < u.length → rd S j = rd (bkOut u m) j)) (fun (k : Int) (r : Int) (S : List Int) => (k + 1).toNat) ?_ ?_
  ·
    exact ⟨((u.length : Nat) : Int) - 1, 0, List.replicate u.length (0 : Int), ⟨(by omega), (by omega), (by rw [List.length_replicate]), (by rw [show ((u.length : Int) - 1 - (((u.length : Nat) : Int) - 1)).toNat = 0 by omega]; rfl), (fun t h => by omega), (fun j h1 h2 => by omega)⟩, (Sub.cons rfl (Sub.cons rfl (Sub.cons rfl (Sub.cons rfl (Sub.cons rfl (Sub.cons rfl Sub.nil)))))), fun _ h => h⟩
  intro k r S ⟨hk0, hk1, hSl, hr, hon, hS⟩
  refine w_seq ?_
  refine w_seq ?_
  refine w_reg ?_
  refine wr_y rfl (y_move rfl) ?_
  refine wr_y rfl (y_ge rfl rfl) ?_
  refine wr_nil ?_
  refine w_if rfl (fun hc2 => ?_) (fun hc2 => ?_)
  ·
    have hk' : 0 ≤ k := by omega
    have hbd := bkRow_bd (l := u) bh_u hpre (u.length - 1 - k).toNat (fun t ht => hon t (by omega)) (by omega)
    rw [← hr] at hbd
    have hm0 : 0 ≤ m := by have := hpre.1; omega
    have hm1 := hpre.2
    have hne : r ≠ m := by rw [hr]; exact hon0 _ (by omega)
    refine w_skip ?_
    refine w_seq ?_
    refine w_block ?_
    refine w_seq ?_
    refine w_seq ?_
    refine w_reg ?_
    refine wr_y rfl (y_move rfl) ?_
    refine wr_y rfl (y_move rfl) ?_
    refine wr_y rfl (Yl.f (y_eq rfl rfl) (hne)) ?_
    refine wr_nil ?_
    refine w_false rfl ?_
    refine w_skip ?_
    refine w_seq ?_
    refine w_reg ?_
    refine wr_y rfl (y_move rfl) ?_
    refine wr_y rfl (y_assign rfl) ?_
    refine wr_nil ?_
    refine w_seq ?_
    refine w_seq ?_
    refine w_reg ?_
    refine wr_y rfl (y_move rfl) ?_
    refine wr_y rfl (y_move rfl) ?_
    refine wr_y rfl (y_gt rfl rfl) ?_
    refine wr_nil ?_
    refine w_if rfl (fun hc3 => ?_) (fun hc3 => ?_)
    ·
      have hiv : r - 1 = ixr m r := by unfold ixr; split <;> omega
      have hxx : rd u (r - 1) = rd u (ixr m (bkRow u m (u.length - 1 - k).toNat)) := by rw [hiv, ← hr]
      have hib := ixr_bd (n := u.length) hbd.1 hbd.2 hne hm0 hm1 (by omega)
      rw [← hiv] at hib
      refine w_reg ?_
      refine wr_y rfl (y_move rfl) ?_
      refine wr_y rfl (y_subI rfl rfl (by omega)) ?_
      refine wr_y rfl (y_assign rfl) ?_
      refine wr_nil ?_
      refine w_seq ?_
      refine w_reg ?_
      refine wr_y rfl (y_move rfl) ?_
      refine wr_y rfl (y_move rfl) ?_
      refine wr_y rfl (y_move rfl) ?_
      refine wr_y rfl (y_move rfl) ?_
      refine wr_y rfl (y_index1 Try.underlying22 sz5 rfl rfl (h_u.c _) (by omega) (by omega)) ?_
      refine wr_y rfl (y_ldI Try.underlying5 rfl rfl (h_u.c _) (by omega) (by omega)) ?_
      refine wr_y rfl (y_index1 Try.underlying22 sz5 rfl rfl (rdr 0 rfl) (by omega) (by omega)) ?_
      refine wr_n (a_storeI 0 rfl sz5 rfl rfl (by omega) (by omega)) ?_
      rintro _ _ rfl
      refine wr_rows (R1 := [⟨5, 1, (some ⟨g_1, 0, none⟩), u.length, u.length, ints .u8 (upd S k (rd u (r - 1))), false⟩]) rfl ?_
      refine wr_nil ?_
      refine w_seq ?_
      refine w_reg ?_
      refine wr_y rfl (y_assign rfl) ?_
      refine wr_nil ?_
      refine w_seq ?_
      refine w_reg ?_
      refine wr_y rfl (y_assign rfl) ?_
      refine wr_nil ?_
      refine w_block ?_
      refine w_loop2 (fun (j : Int) (z : Int) => [(0, .slice A_u u.length c_u), (1, .int .i64 m), (6, .int .i64 ((u.length : Nat) : Int)), (7, .slice (some ⟨g_1, 0, none⟩) u.length u.length), (8, .int .i64 z), (9, .int .i64 k), (10, .int .i64 (r - 1)), (11, .int .i64 j)]) (fun (j : Int) (z : Int) => [⟨5, 1, (some ⟨g_1, 0, none⟩), u.length, u.length, ints .u8 (upd S k (rd u (r - 1))), false⟩]) (fun (j : Int) (z : Int) => (0 ≤ j) ∧ (j ≤ u.length) ∧ (z = 1 + (((iota j.toNat).countP fun x => decide (tl u x (r - 1)) : Nat) : Int))) (fun (j : Int) (z : Int) => (u.length - j).toNat) ?_ ?_
      ·
        exact ⟨0, 1, ⟨(by omega), (by omega), (rfl)⟩, (Sub.cons rfl (Sub.cons rfl (Sub.cons rfl (Sub.cons rfl (Sub.cons rfl (Sub.cons rfl (Sub.cons rfl (Sub.cons rfl Sub.nil)))))))), fun _ h => h⟩
      intro j z ⟨hj0, hj1, hz⟩
      have hzb := cnt_bd u (r - 1) j
      refine w_seq ?_
      refine w_seq ?_
      refine w_reg ?_
      refine wr_y rfl (y_move rfl) ?_
      refine wr_y rfl (y_move rfl) ?_
      refine wr_y rfl (y_lt rfl rfl) ?_
      refine wr_nil ?_
      refine w_if rfl (fun hc4 => ?_) (fun hc4 => ?_)
      ·
        refine w_skip ?_
        refine w_seq ?_
        refine w_block ?_
        refine w_join0 [(0, .slice A_u u.length c_u), (1, .int .i64 m), (6, .int .i64 ((u.length : Nat) : Int)), (7, .slice (some ⟨g_1, 0, none⟩) u.length u.length), (8, .int .i64 z), (9, .int .i64 k), (10, .int .i64 (r - 1)), (11, .int .i64 j), (84, .bool (decide (((rd u j) < (rd u (r - 1))) ∨ (((rd u j) = (rd u (r - 1))) ∧ (j < (r - 1))))))] [⟨5, 1, (some ⟨g_1, 0, none⟩), u.length, u.length, ints .u8 (upd S k (rd u (r - 1))), false⟩] ?_ ?_
        ·
          refine w_regd mixed ?_
          refine wd_y 0 rfl (by kernel_rfl) rfl (y_move rfl) ?_
          refine wd_y 1 rfl (by kernel_rfl) rfl (y_move rfl) ?_
          refine wd_y 2 rfl (by kernel_rfl) rfl (y_index1 Try.underlying22 sz5 rfl rfl (h_u.c _) (by omega) (by omega)) ?_
          refine wd_y 3 rfl (by kernel_rfl) rfl (y_ldI Try.underlying5 rfl rfl (h_u.c _) (by omega) (by omega)) ?_
          refine wd_y 4 rfl (by kernel_rfl) rfl (y_move rfl) ?_
          refine wd_y 5 rfl (by kernel_rfl) rfl (y_move rfl) ?_
          refine wd_y 6 rfl (by kernel_rfl) rfl (y_index1 Try.underlying22 sz5 rfl rfl (h_u.c _) (by omega) (by omega)) ?_
          refine wd_y 7 rfl (by kernel_rfl) rfl (y_ldI Try.underlying5 rfl rfl (h_u.c _) (by omega) (by omega)) ?_
          refine wd_y 8 rfl (by kernel_rfl) rfl (y_lt rfl rfl) ?_
          refine wd_y 9 rfl (by kernel_rfl) rfl (y_move rfl) ?_
          refine wd_case 69 rfl (fun hc5 => ?_) (fun hc5 => ?_)
          ·
            refine wd_no 10 rfl (by kernel_rfl) rfl rfl rfl rfl ?_
            refine wd_no 11 rfl (by kernel_rfl) rfl rfl rfl rfl ?_
            refine wd_no 12 rfl (by kernel_rfl) rfl rfl rfl rfl ?_
            refine wd_no 13 rfl (by kernel_rfl) rfl rfl rfl rfl ?_
            refine wd_no 14 rfl (by kernel_rfl) rfl rfl rfl rfl ?_
            refine wd_no 15 rfl (by kernel_rfl) rfl rfl rfl rfl ?_
            refine wd_no 16 rfl (by kernel_rfl) rfl rfl rfl rfl ?_
            refine wd_no 17 rfl (by kernel_rfl) rfl rfl rfl rfl ?_
            refine wd_no 18 rfl (by kernel_rfl) rfl rfl rfl rfl ?_
            refine wd_no 19 rfl (by kernel_rfl) rfl rfl rfl rfl ?_
            refine wd_nou 20 rfl (by kernel_rfl) rfl rfl rfl ?_
            refine wd_nou 21 rfl (by kernel_rfl) rfl rfl rfl ?_
            refine wd_nou 22 rfl (by kernel_rfl) rfl rfl rfl ?_
            refine wd_no 23 rfl (by kernel_rfl) rfl rfl rfl rfl ?_
            refine wd_y 24 rfl (by kernel_rfl) rfl (y_pickT rfl rfl) ?_
            refine wd_nil (by kernel_rfl) ?_
            exact ⟨(Sub.cons rfl (Sub.cons rfl (Sub.cons rfl (Sub.cons rfl (Sub.cons rfl (Sub.cons rfl (Sub.cons rfl (Sub.cons rfl (Sub.to rfl (mb_t (by first | omega | exact ⟨fun h => ⟨(by assumption), h⟩, fun h => h.2⟩ | simp [*])) Sub.nil))))))))), fun _ h => h⟩
          ·
            refine wd_yg 10 rfl (by kernel_rfl) rfl rfl rfl (y_move rfl) ?_
            refine wd_yg 11 rfl (by kernel_rfl) rfl rfl rfl (y_move rfl) ?_
            refine wd_yg 12 rfl (by kernel_rfl) rfl rfl rfl (y_index1 Try.underlying22 sz5 rfl rfl (h_u.c _) (by omega) (by omega)) ?_
            refine wd_yg 13 rfl (by kernel_rfl) rfl rfl rfl (y_ldI Try.underlying5 rfl rfl (h_u.c _) (by omega) (by omega)) ?_
            refine wd_yg 14 rfl (by kernel_rfl) rfl rfl rfl (y_move rfl) ?_
            refine wd_yg 15 rfl (by kernel_rfl) rfl rfl rfl (y_move rfl) ?_
            refine wd_yg 16 rfl (by kernel_rfl) rfl rfl rfl (y_index1 Try.underlying22 sz5 rfl rfl (h_u.c _) (by omega) (by omega)) ?_
            refine wd_yg 17 rfl (by kernel_rfl) rfl rfl rfl (y_ldI Try.underlying5 rfl rfl (h_u.c _) (by omega) (by omega)) ?_
            refine wd_yg 18 rfl (by kernel_rfl) rfl rfl rfl (y_eq rfl rfl) ?_
            refine wd_yg 19 rfl (by kernel_rfl) rfl rfl rfl (y_move rfl) ?_
            refine wd_case 79 rfl (fun hc6 => ?_) (fun hc6 => ?_)
            ·
              refine wd_yg 20 rfl (by kernel_rfl) rfl rfl rfl (y_move rfl) ?_
              refine wd_yg 21 rfl (by kernel_rfl) rfl rfl rfl (y_move rfl) ?_
              refine wd_yg 22 rfl (by kernel_rfl) rfl rfl rfl (y_lt rfl rfl) ?_
              refine wd_yg 23 rfl (by kernel_rfl) rfl rfl rfl (y_pickT rfl rfl) ?_
              refine wd_y 24 rfl (by kernel_rfl) rfl (y_pickF rfl rfl) ?_
              refine wd_nil (by kernel_rfl) ?_
              exact ⟨(Sub.cons rfl (Sub.cons rfl (Sub.cons rfl (Sub.cons rfl (Sub.cons rfl (Sub.cons rfl (Sub.cons rfl (Sub.cons rfl (Sub.to rfl (mb (by first | omega | exact ⟨fun h => ⟨(by assumption), h⟩, fun h => h.2⟩ | simp [*])) Sub.nil))))))))), fun _ h => h⟩
            ·
              refine wd_no 20 rfl (by kernel_rfl) rfl rfl rfl rfl ?_
              refine wd_no 21 rfl (by kernel_rfl) rfl rfl rfl rfl ?_
              refine wd_no 22 rfl (by kernel_rfl) rfl rfl rfl rfl ?_
              refine wd_yg 23 rfl (by kernel_rfl) rfl rfl rfl (y_pickF rfl rfl) ?_
              refine wd_y 24 rfl (by kernel_rfl) rfl (y_pickF rfl rfl) ?_
              refine wd_nil (by kernel_rfl) ?_
              exact ⟨(Sub.cons rfl (Sub.cons rfl (Sub.cons rfl (Sub.cons rfl (Sub.cons rfl (Sub.cons rfl (Sub.cons rfl (Sub.cons rfl (Sub.to rfl (mb_f (by first | omega | exact ⟨fun h => ⟨(by assumption), h⟩, fun h => h.2⟩ | simp [*])) Sub.nil))))))))), fun _ h => h⟩
        refine w_if rfl (fun hc7 => ?_) (fun hc7 => ?_)
        ·
          refine w_reg ?_
          refine wr_y rfl (y_move rfl) ?_
          refine wr_y rfl (y_addI rfl rfl (by omega)) ?_
          refine wr_y rfl (y_assign rfl) ?_
          refine wr_nil ?_
          refine w_reg ?_
          refine wr_y rfl (y_move rfl) ?_
          refine wr_y rfl (y_addI rfl rfl (by omega)) ?_
          refine wr_y rfl (y_assign rfl) ?_
          refine wr_nil ?_
          exact ⟨j + 1, z + 1, ⟨(by omega), (by omega), (cnt_yes hj0 hz (by assumption))⟩, (by omega), (Sub.cons rfl (Sub.cons rfl (Sub.cons rfl (Sub.cons rfl (Sub.cons rfl (Sub.cons rfl (Sub.cons rfl (Sub.cons rfl Sub.nil)))))))), fun _ h => h⟩
        ·
          refine w_skip ?_
          refine w_reg ?_
          refine wr_y rfl (y_move rfl) ?_
          refine wr_y rfl (y_addI rfl rfl (by omega)) ?_
          refine wr_y rfl (y_assign rfl) ?_
          refine wr_nil ?_
          exact ⟨j + 1, z, ⟨(by omega), (by omega), (cnt_no hj0 hz (by assumption))⟩, (by omega), (Sub.cons rfl (Sub.cons rfl (Sub.cons rfl (Sub.cons rfl (Sub.cons rfl (Sub.cons rfl (Sub.cons rfl (Sub.cons rfl Sub.nil)))))))), fun _ h => h⟩
      ·
        have hnx : z = bkRow u m (u.length - 1 - (k - 1)).toNat := (cnt_all hz (by omega)).trans (bk_next hk' hk1 hr hiv)
        refine w_exit ?_
        refine w_reg ?_
        refine wr_y rfl (y_move rfl) ?_
        refine wr_y rfl (y_subI rfl rfl (by omega)) ?_
        refine wr_y rfl (y_assign rfl) ?_
        refine wr_nil ?_
        exact ⟨k - 1, z, upd S k (rd u (r - 1)), ⟨(by omega), (by omega), (by rw [upd_length]; exact hSl), (hnx), (on_step hk' hk1 hon hr hne), (bk_step hk' hk1 hSl hS hxx)⟩, (by omega), (Sub.cons rfl (Sub.cons rfl (Sub.cons rfl (Sub.cons rfl (Sub.cons rfl (Sub.cons rfl Sub.nil)))))), fun _ h => h⟩
    ·
      have hiv : r = ixr m r := by unfold ixr; split <;> omega
      have hxx : rd u (r) = rd u (ixr m (bkRow u m (u.length - 1 - k).toNat)) := by rw [hiv, ← hr]
      have hib := ixr_bd (n := u.length) hbd.1 hbd.2 hne hm0 hm1 (by omega)
      rw [← hiv] at hib
      refine w_skip ?_
      refine w_seq ?_
      refine w_reg ?_
      refine wr_y rfl (y_move rfl) ?_
      refine wr_y rfl (y_move rfl) ?_
      refine wr_y rfl (y_move rfl) ?_
      refine wr_y rfl (y_move rfl) ?_
      refine wr_y rfl (y_index1 Try.underlying22 sz5 rfl rfl (h_u.c _) (by omega) (by omega)) ?_
      refine wr_y rfl (y_ldI Try.underlying5 rfl rfl (h_u.c _) (by omega) (by omega)) ?_
      refine wr_y rfl (y_index1 Try.underlying22 sz5 rfl rfl (rdr 0 rfl) (by omega) (by omega)) ?_
      refine wr_n (a_storeI 0 rfl sz5 rfl rfl (by omega) (by omega)) ?_
      rintro _ _ rfl
      refine wr_rows (R1 := [⟨5, 1, (some ⟨g_1, 0, none⟩), u.length, u.length, ints .u8 (upd S k (rd u r)), false⟩]) rfl ?_
      refine wr_nil ?_
      refine w_seq ?_
      refine w_reg ?_
      refine wr_y rfl (y_assign rfl) ?_
      refine wr_nil ?_
      refine w_seq ?_
      refine w_reg ?_
      refine wr_y rfl (y_assign rfl) ?_
      refine wr_nil ?_
      refine w_block ?_
      refine w_loop2 (fun (j : Int) (z : Int) => [(0, .slice A_u u.length c_u), (1, .int .i64 m), (6, .int .i64 ((u.length : Nat) : Int)), (7, .slice (some ⟨g_1, 0, none⟩) u.length u.length), (8, .int .i64 z), (9, .int .i64 k), (10, .int .i64 r), (11, .int .i64 j)]) (fun (j : Int) (z : Int) => [⟨5, 1, (some ⟨g_1, 0, none⟩), u.length, u.length, ints .u8 (upd S k (rd u r)), false⟩]) (fun (j : Int) (z : Int) => (0 ≤ j) ∧ (j ≤ u.length) ∧ (z = 1 + (((iota j.toNat).countP fun x => decide (tl u x (r)) : Nat) : Int))) (fun (j : Int) (z : Int) => (u.length - j).toNat) ?_ ?_
      ·
        exact ⟨0, 1, ⟨(by omega), (by omega), (rfl)⟩, (Sub.cons rfl (Sub.cons rfl (Sub.cons rfl (Sub.cons rfl (Sub.cons rfl (Sub.cons rfl (Sub.cons rfl (Sub.cons rfl Sub.nil)))))))), fun _ h => h⟩
      intro j z ⟨hj0, hj1, hz⟩
      have hzb := cnt_bd u (r) j
      refine w_seq ?_
      refine w_seq ?_
      refine w_reg ?_
      refine wr_y rfl (y_move rfl) ?_
      refine wr_y rfl (y_move rfl) ?_
      refine wr_y rfl (y_lt rfl rfl) ?_
      refine wr_nil ?_
      refine w_if rfl (fun hc8 => ?_) (fun hc8 => ?_)
      ·
        refine w_skip ?_
        refine w_seq ?_
        refine w_block ?_
        refine w_join0 [(0, .slice A_u u.length c_u), (1, .int .i64 m), (6, .int .i64 ((u.length : Nat) : Int)), (7, .slice (some ⟨g_1, 0, none⟩) u.length u.length), (8, .int .i64 z), (9, .int .i64 k), (10, .int .i64 r), (11, .int .i64 j), (84, .bool (decide (((rd u j) < (rd u r)) ∨ (((rd u j) = (rd u r)) ∧ (j < r)))))] [⟨5, 1, (some ⟨g_1, 0, none⟩), u.length, u.length, ints .u8 (upd S k (rd u r)), false⟩] ?_ ?_
        ·
          refine w_regd mixed ?_
          refine wd_y 0 rfl (by kernel_rfl) rfl (y_move rfl) ?_
          refine wd_y 1 rfl (by kernel_rfl) rfl (y_move rfl) ?_
          refine wd_y 2 rfl (by kernel_rfl) rfl (y_index1 Try.underlying22 sz5 rfl rfl (h_u.c _) (by omega) (by omega)) ?_
          refine wd_y 3 rfl (by kernel_rfl) rfl (y_ldI Try.underlying5 rfl rfl (h_u.c _) (by omega) (by omega)) ?_
          refine wd_y 4 rfl (by kernel_rfl) rfl (y_move rfl) ?_
          refine wd_y 5 rfl (by kernel_rfl) rfl (y_move rfl) ?_
          refine wd_y 6 rfl (by kernel_rfl) rfl (y_index1 Try.underlying22 sz5 rfl rfl (h_u.c _) (by omega) (by omega)) ?_
          refine wd_y 7 rfl (by kernel_rfl) rfl (y_ldI Try.underlying5 rfl rfl (h_u.c _) (by omega) (by omega)) ?_
          refine wd_y 8 rfl (by kernel_rfl) rfl (y_lt rfl rfl) ?_
          refine wd_y 9 rfl (by kernel_rfl) rfl (y_move rfl) ?_
          refine wd_case 69 rfl (fun hc9 => ?_) (fun hc9 => ?_)
          ·
            refine wd_no 10 rfl (by kernel_rfl) rfl rfl rfl rfl ?_
            refine wd_no 11 rfl (by kernel_rfl) rfl rfl rfl rfl ?_
            refine wd_no 12 rfl (by kernel_rfl) rfl rfl rfl rfl ?_
            refine wd_no 13 rfl (by kernel_rfl) rfl rfl rfl rfl ?_
            refine wd_no 14 rfl (by kernel_rfl) rfl rfl rfl rfl ?_
            refine wd_no 15 rfl (by kernel_rfl) rfl rfl rfl rfl ?_
            refine wd_no 16 rfl (by kernel_rfl) rfl rfl rfl rfl ?_
            refine wd_no 17 rfl (by kernel_rfl) rfl rfl rfl rfl ?_
            refine wd_no 18 rfl (by kernel_rfl) rfl rfl rfl rfl ?_
            refine wd_no 19 rfl (by kernel_rfl) rfl rfl rfl rfl ?_
            refine wd_nou 20 rfl (by kernel_rfl) rfl rfl rfl ?_
            refine wd_nou 21 rfl (by kernel_rfl) rfl rfl rfl ?_
            refine wd_nou 22 rfl (by kernel_rfl) rfl rfl rfl ?_
            refine wd_no 23 rfl (by kernel_rfl) rfl rfl rfl rfl ?_
            refine wd_y 24 rfl (by kernel_rfl) rfl (y_pickT rfl rfl) ?_
            refine wd_nil (by kernel_rfl) ?_
            exact ⟨(Sub.cons rfl (Sub.cons rfl (Sub.cons rfl (Sub.cons rfl (Sub.cons rfl (Sub.cons rfl (Sub.cons rfl (Sub.cons rfl (Sub.to rfl (mb_t (by first | omega | exact ⟨fun h => ⟨(by assumption), h⟩, fun h => h.2⟩ | simp [*])) Sub.nil))))))))), fun _ h => h⟩
          ·
            refine wd_yg 10 rfl (by kernel_rfl) rfl rfl rfl (y_move rfl) ?_
            refine wd_yg 11 rfl (by kernel_rfl) rfl rfl rfl (y_move rfl) ?_
            refine wd_yg 12 rfl (by kernel_rfl) rfl rfl rfl (y_index1 Try.underlying22 sz5 rfl rfl (h_u.c _) (by omega) (by omega)) ?_
            refine wd_yg 13 rfl (by kernel_rfl) rfl rfl rfl (y_ldI Try.underlying5 rfl rfl (h_u.c _) (by omega) (by omega)) ?_
            refine wd_yg 14 rfl (by kernel_rfl) rfl rfl rfl (y_move rfl) ?_
            refine wd_yg 15 rfl (by kernel_rfl) rfl rfl rfl (y_move rfl) ?_
            refine wd_yg 16 rfl (by kernel_rfl) rfl rfl rfl (y_index1 Try.underlying22 sz5 rfl rfl (h_u.c _) (by omega) (by omega)) ?_
            refine wd_yg 17 rfl (by kernel_rfl) rfl rfl rfl (y_ldI Try.underlying5 rfl rfl (h_u.c _) (by omega) (by omega)) ?_
            refine wd_yg 18 rfl (by kernel_rfl) rfl rfl rfl (y_eq rfl rfl) ?_
            refine wd_yg 19 rfl (by kernel_rfl) rfl rfl rfl (y_move rfl) ?_
            refine wd_case 79 rfl (fun hc10 => ?_) (fun hc10 => ?_)
            ·
              refine wd_yg 20 rfl (by kernel_rfl) rfl rfl rfl (y_move rfl) ?_
              refine wd_yg 21 rfl (by kernel_rfl) rfl rfl rfl (y_move rfl) ?_
              refine wd_yg 22 rfl (by kernel_rfl) rfl rfl rfl (y_lt rfl rfl) ?_
              refine wd_yg 23 rfl (by kernel_rfl) rfl rfl rfl (y_pickT rfl rfl) ?_
              refine wd_y 24 rfl (by kernel_rfl) rfl (y_pickF rfl rfl) ?_
              refine wd_nil (by kernel_rfl) ?_
              exact ⟨(Sub.cons rfl (Sub.cons rfl (Sub.cons rfl (Sub.cons rfl (Sub.cons rfl (Sub.cons rfl (Sub.cons rfl (Sub.cons rfl (Sub.to rfl (mb (by first | omega | exact ⟨fun h => ⟨(by assumption), h⟩, fun h => h.2⟩ | simp [*])) Sub.nil))))))))), fun _ h => h⟩
            ·
              refine wd_no 20 rfl (by kernel_rfl) rfl rfl rfl rfl ?_
              refine wd_no 21 rfl (by kernel_rfl) rfl rfl rfl rfl ?_
              refine wd_no 22 rfl (by kernel_rfl) rfl rfl rfl rfl ?_
              refine wd_yg 23 rfl (by kernel_rfl) rfl rfl rfl (y_pickF rfl rfl) ?_
              refine wd_y 24 rfl (by kernel_rfl) rfl (y_pickF rfl rfl) ?_
              refine wd_nil (by kernel_rfl) ?_
              exact ⟨(Sub.cons rfl (Sub.cons rfl (Sub.cons rfl (Sub.cons rfl (Sub.cons rfl (Sub.cons rfl (Sub.cons rfl (Sub.cons rfl (Sub.to rfl (mb_f (by first | omega | exact ⟨fun h => ⟨(by assumption), h⟩, fun h => h.2⟩ | simp [*])) Sub.nil))))))))), fun _ h => h⟩
        refine w_if rfl (fun hc11 => ?_) (fun hc11 => ?_)
        ·
          refine w_reg ?_
          refine wr_y rfl (y_move rfl) ?_
          refine wr_y rfl (y_addI rfl rfl (by omega)) ?_
          refine wr_y rfl (y_assign rfl) ?_
          refine wr_nil ?_
          refine w_reg ?_
          refine wr_y rfl (y_move rfl) ?_
          refine wr_y rfl (y_addI rfl rfl (by omega)) ?_
          refine wr_y rfl (y_assign rfl) ?_
          refine wr_nil ?_
          exact ⟨j + 1, z + 1, ⟨(by omega), (by omega), (cnt_yes hj0 hz (by assumption))⟩, (by omega), (Sub.cons rfl (Sub.cons rfl (Sub.cons rfl (Sub.cons rfl (Sub.cons rfl (Sub.cons rfl (Sub.cons rfl (Sub.cons rfl Sub.nil)))))))), fun _ h => h⟩
        ·
          refine w_skip ?_
          refine w_reg ?_
          refine wr_y rfl (y_move rfl) ?_
          refine wr_y rfl (y_addI rfl rfl (by omega)) ?_
          refine wr_y rfl (y_assign rfl) ?_
          refine wr_nil ?_
          exact ⟨j + 1, z, ⟨(by omega), (by omega), (cnt_no hj0 hz (by assumption))⟩, (by omega), (Sub.cons rfl (Sub.cons rfl (Sub.cons rfl (Sub.cons rfl (Sub.cons rfl (Sub.cons rfl (Sub.cons rfl (Sub.cons rfl Sub.nil)))))))), fun _ h => h⟩
      ·
        have hnx : z = bkRow u m (u.length - 1 - (k - 1)).toNat := (cnt_all hz (by omega)).trans (bk_next hk' hk1 hr hiv)
        refine w_exit ?_
        refine w_reg ?_
        refine wr_y rfl (y_move rfl) ?_
        refine wr_y rfl (y_subI rfl rfl (by omega)) ?_
        refine wr_y rfl (y_assign rfl) ?_
        refine wr_nil ?_
        exact ⟨k - 1, z, upd S k (rd u r), ⟨(by omega), (by omega), (by rw [upd_length]; exact hSl), (hnx), (on_step hk' hk1 hon hr hne), (bk_step hk' hk1 hSl hS hxx)⟩, (by omega), (Sub.cons rfl (Sub.cons rfl (Sub.cons rfl (Sub.cons rfl (Sub.cons rfl (Sub.cons rfl Sub.nil)))))), fun _ h => h⟩
  ·
    obtain rfl : S = bkOut u m := bk_done hSl fun j h1 h2 => hS j (by omega) h2
    refine w_exit ?_
    refine w_seq ?_
    refine w_reg ?_
    refine wr_y rfl (y_move rfl) ?_
    refine wr_a rfl (a_callF en15 rfl (Ct.fresh (fun w hw => rturn_ct ((rdr 0 rfl) w hw) (bkOut_byt bh_u m) (by rw [bkOut_len]; omega)))) ?_
    rintro _ _ ⟨_, rfl, b1, A_2, c_3, rfl, hp_b1, hs_b1, rfl⟩
    refine wr_y rfl (y_move rfl) ?_
    refine wr_y rfl (y_extract rfl rfl) ?_
    refine wr_y rfl (y_extract rfl rfl) ?_
    refine wr_y rfl (y_assign rfl) ?_
    refine wr_y rfl (y_assign rfl) ?_
    refine wr_nil ?_
    refine w_seq ?_
    refine w_seq ?_
    refine w_reg ?_
    refine wr_y rfl (y_move rfl) ?_
    refine wr_y rfl (y_toStr Try.underlying22 Try.underlying5 Try.underlying9 rfl (rdr 0 rfl)) ?_
    refine wr_y rfl (y_move rfl) ?_
    refine wr_y rfl (y_toStr Try.underlying22 Try.underlying5 Try.underlying9 rfl (h_u.c _)) ?_
    refine wr_y rfl (Yl.f (y_neL rfl rfl (ofL_byt (bkOut_byt bh_u m) hp_b1) bh_u) (fun h => h (back_turned bh_u hok hp_b1 hs_b1).1)) ?_
    refine wr_y rfl (y_move rfl) ?_
    refine wr_yes rfl rfl ?_
    refine wr_y rfl (y_move rfl) ?_
    refine wr_yes rfl rfl ?_
    refine wr_y rfl (y_move rfl) ?_
    refine wr_yes rfl rfl ?_
    refine wr_y rfl (Yl.f (y_ne rfl rfl) (fun h => h (back_turned bh_u hok hp_b1 hs_b1).2)) ?_
    refine wr_y rfl (y_pickF rfl rfl) ?_
    refine wr_nil ?_
    refine w_false rfl ?_
    refine w_skip ?_
    refine w_seq ?_
    refine w_reg ?_
    refine wr_y rfl (y_move rfl) ?_
    refine wr_y rfl (y_assign rfl) ?_
    refine wr_y rfl (y_assign rfl) ?_
    refine wr_nil ?_
    refine w_retR (R1 := [⟨5, 1, (some ⟨g_1, 0, none⟩), u.length, u.length, ints .u8 (bkOut u m), false⟩]) (fun _ h => h.sel [1] (by decide) rfl) ?_
    refine ⟨_, _, rfl, rfl, ?_⟩
    exact ⟨_, _, rfl, rfl⟩

/-! whorl/whorlref21.Back -/
set_option maxRecDepth 100000 in
set_option maxHeartbeats 1500000 in
theorem rbackNo_ct {w : World} {A_u : Option Addr} {n_u c_u : Nat} {u : List Int} {m : Int} (h_u : Rd w A_u n_u c_u 1 (ints .u8 u)) (bh_u : ByteL u) (hno : ¬ BkOk u m) (hN : u.length ≤ 100000) :
    Ct Try.prog 17 #[.slice A_u n_u c_u, .int .i64 m] w.heap.size w [] (fun v R' => v = .tuple #[.slice none 0 0, .int .i64 5]) := by
  obtain rfl := h_u.lenI
  refine fn2 Try.func17 rfl rfl rfl ?_
  have m_u := h_u.max
  refine w_seq ?_
  refine w_reg ?_
  refine wr_y rfl (y_assign rfl) ?_
  refine wr_y rfl (y_assign rfl) ?_
  refine wr_nil ?_
  refine w_seq ?_
  refine w_reg ?_
  refine wr_y rfl (y_move rfl) ?_
  refine wr_y rfl (y_len Try.underlying22 rfl) ?_
  refine wr_y rfl (y_assign rfl) ?_
  refine wr_nil ?_
  refine w_seq ?_
  refine w_seq ?_
  refine w_reg ?_
  refine wr_y rfl (y_move rfl) ?_
  refine wr_y rfl (y_lt rfl rfl) ?_
  refine wr_y rfl (y_move rfl) ?_
  refine wr_mid 4 [(0, .slice A_u u.length c_u), (1, .int .i64 m), (6, .int .i64 ((u.length : Nat) : Int)), (22, .bool (decide ((m < 0) ∨ (((u.length : Nat) : Int) < m))))] [] ?_ ?_
  ·
    refine wr_case 18 rfl (fun hc1 => ?_) (fun hc1 => ?_)
    ·
      refine wr_no rfl rfl rfl rfl ?_
      refine wr_no rfl rfl rfl rfl ?_
      refine wr_no rfl rfl rfl rfl ?_
      refine wr_y rfl (y_pickT rfl rfl) ?_
      refine wr_nil ?_
      exact ⟨(Sub.cons rfl (Sub.cons rfl (Sub.cons rfl (Sub.to rfl (mb_t (by first | omega | exact ⟨fun h => ⟨(by assumption), h⟩, fun h => h.2⟩ | simp [*])) Sub.nil)))), fun _ h => h⟩
    ·
      refine wr_yes rfl rfl ?_
      refine wr_y rfl (y_move rfl) ?_
      refine wr_yes rfl rfl ?_
      refine wr_y rfl (y_move rfl) ?_
      refine wr_yes rfl rfl ?_
      refine wr_y rfl (y_gt rfl rfl) ?_
      refine wr_y rfl (y_pickF rfl rfl) ?_
      refine wr_nil ?_
      exact ⟨(Sub.cons rfl (Sub.cons rfl (Sub.cons rfl (Sub.to rfl (mb (by first | omega | exact ⟨fun h => ⟨(by assumption), h⟩, fun h => h.2⟩ | simp [*])) Sub.nil)))), fun _ h => h⟩
  refine wr_y rfl (y_move rfl) ?_
  refine wr_mid 7 [(0, .slice A_u u.length c_u), (1, .int .i64 m), (6, .int .i64 ((u.length : Nat) : Int)), (30, .bool (decide (((m < 0) ∨ (((u.length : Nat) : Int) < m)) ∨ ((0 < ((u.length : Nat) : Int)) ∧ (m = 0)))))] [] ?_ ?_
  ·
    refine wr_case 23 rfl (fun hc2 => ?_) (fun hc2 => ?_)
    ·
      refine wr_no rfl rfl rfl rfl ?_
      refine wr_no rfl rfl rfl rfl ?_
      refine wr_no rfl rfl rfl rfl ?_
      refine wr_nou rfl rfl rfl ?_
      refine wr_nou rfl rfl rfl ?_
      refine wr_no rfl rfl rfl rfl ?_
      refine wr_y rfl (y_pickT rfl rfl) ?_
      refine wr_nil ?_
      exact ⟨(Sub.cons rfl (Sub.cons rfl (Sub.cons rfl (Sub.to rfl (mb_t (by first | omega | exact ⟨fun h => ⟨(by assumption), h⟩, fun h => h.2⟩ | simp [*])) Sub.nil)))), fun _ h => h⟩
    ·
      refine wr_yes rfl rfl ?_
      refine wr_y rfl (y_move rfl) ?_
      refine wr_yes rfl rfl ?_
      refine wr_y rfl (y_gt rfl rfl) ?_
      refine wr_yes rfl rfl ?_
      refine wr_y rfl (y_move rfl) ?_
      refine wr_mid 3 [(0, .slice A_u u.length c_u), (1, .int .i64 m), (6, .int .i64 ((u.length : Nat) : Int)), (23, .bool false), (29, .bool (decide ((0 < ((u.length : Nat) : Int)) ∧ (m = 0))))] [] ?_ ?_
      ·
        refine wr_case 26 rfl (fun hc3 => ?_) (fun hc3 => ?_)
        ·
          refine wr_yes rfl rfl ?_
          refine wr_y rfl (y_move rfl) ?_
          refine wr_yes rfl rfl ?_
          refine wr_y rfl (y_eq rfl rfl) ?_
          refine wr_yes rfl rfl ?_
          refine wr_y rfl (y_pickT rfl rfl) ?_
          refine wr_nil ?_
          exact ⟨(Sub.cons rfl (Sub.cons rfl (Sub.cons rfl (Sub.cons rfl (Sub.to rfl (mb (by first | omega | exact ⟨fun h => ⟨(by assumption), h⟩, fun h => h.2⟩ | simp [*])) Sub.nil))))), fun _ h => h⟩
        ·
          refine wr_no rfl rfl rfl rfl ?_
          refine wr_no rfl rfl rfl rfl ?_
          refine wr_yes rfl rfl ?_
          refine wr_y rfl (y_pickF rfl rfl) ?_
          refine wr_nil ?_
          exact ⟨(Sub.cons rfl (Sub.cons rfl (Sub.cons rfl (Sub.cons rfl (Sub.to rfl (mb_f (by first | omega | exact ⟨fun h => ⟨(by assumption), h⟩, fun h => h.2⟩ | simp [*])) Sub.nil))))), fun _ h => h⟩
      refine wr_y rfl (y_pickF rfl rfl) ?_
      refine wr_nil ?_
      exact ⟨(Sub.cons rfl (Sub.cons rfl (Sub.cons rfl (Sub.to rfl (mb (by first | omega | exact ⟨fun h => ⟨(by assumption), h⟩, fun h => h.2⟩ | simp [*])) Sub.nil)))), fun _ h => h⟩
  refine wr_nil ?_
  refine w_if rfl (fun hc4 => ?_) (fun hc4 => ?_)
  ·
    refine w_seq ?_
    refine w_reg ?_
    refine wr_y rfl (y_assign rfl) ?_
    refine wr_y rfl (y_assign rfl) ?_
    refine wr_nil ?_
    refine w_ret ?_
    refine ⟨_, _, rfl, rfl, ?_⟩
    rfl
  ·
    have hpre : BkPre u m := by unfold BkPre; omega
    refine w_skip ?_
    refine w_seq ?_
    refine w_reg ?_
    refine wr_y rfl (y_move rfl) ?_
    refine wr_a rfl (a_makeN Try.underlying22 zb5 rfl rfl (by omega) (by omega) (by omega)) ?_
    rintro _ _ ⟨g_1, rfl, rfl⟩
    refine wr_rows (R1 := [⟨5, 1, (some ⟨g_1, 0, none⟩), u.length, u.length, ints .u8 (List.replicate u.length (0 : Int)), false⟩]) rfl ?_
    refine wr_as (v := .slice (some ⟨g_1, 0, none⟩) u.length u.length) rfl ?_
    refine wr_y rfl (y_assign rfl) ?_
    refine wr_nil ?_
    refine w_seq ?_
    refine w_reg ?_
    refine wr_y rfl (y_assign rfl) ?_
    refine wr_nil ?_
    refine w_seq ?_
    refine w_seq ?_
    refine w_reg ?_
    refine wr_y rfl (y_move rfl) ?_
    refine wr_y rfl (y_subI rfl rfl (by omega)) ?_
    refine wr_y rfl (y_assign rfl) ?_
    refine wr_nil ?_
    refine w_block ?_
    refine w_loop3 (fun (k : Int) (r : Int) (S : List Int) => [(0, .slice A_u u.length c_u), (1, .int .i64 m), (6, .int .i64 ((u.length : Nat) : Int)), (7, .slice (some ⟨g_1, 0, none⟩) u.length u.length), (8, .int .i64 r), (9, .int .i64 k)]) (fun (k : Int) (r : Int) (S : List Int) => [⟨5, 1, (some ⟨g_1, 0, none⟩), u.length, u.length, ints .u8 S, false⟩]) (fun (k : Int) (r : Int) (S : List Int) => (-1 ≤ k) ∧ (k < u.length) ∧ (S.length = u.length) ∧ (r = bkRow u m (u.length - 1 - k).toNat) ∧ (∀ t : Nat, (t : Int) < u.length - 1 - k → bkRow u m t ≠ m) ∧ (∀ j : Int, k < j → j < u.length → rd S j = rd (bkOut u m) j)) (fun (k : Int) (r : Int) (S : List Int) => (k + 1).toNat) ?_ ?_
    ·
      exact ⟨((u.length : Nat) : Int) - 1, 0, List.replicate u.length (0 : Int), ⟨(by omega), (by omega), (by rw [List.length_replicate]), (by rw [show ((u.length : Int) - 1 - (((u.length : Nat) : Int) - 1)).toNat = 0 by omega]; rfl), (fun t h => by omega), (fun j h1 h2 => by omega)⟩, (Sub.cons rfl (Sub.cons rfl (Sub.cons rfl (Sub.cons rfl (Sub.cons rfl (Sub.cons rfl Sub.nil)))))), fun _ h => h⟩
    intro k r S ⟨hk0, hk1, hSl, hr, hon, hS⟩
    refine w_seq ?_
    refine w_seq ?_
    refine w_reg ?_
    refine wr_y rfl (y_move rfl) ?_
    refine wr_y rfl (y_ge rfl rfl) ?_
    refine wr_nil ?_
    refine w_if rfl (fun hc5 => ?_) (fun hc5 => ?_)
    ·
      have hk' : 0 ≤ k := by omega
      have hbd := bkRow_bd (l := u) bh_u hpre (u.length - 1 - k).toNat (fun t ht => hon t (by omega)) (by omega)
      rw [← hr] at hbd
      have hm0 : 0 ≤ m := by have := hpre.1; omega
      have hm1 := hpre.2
      refine w_skip ?_
      refine w_seq ?_
      refine w_block ?_
      refine w_seq ?_
      refine w_seq ?_
      refine w_reg ?_
      refine wr_y rfl (y_move rfl) ?_
      refine wr_y rfl (y_move rfl) ?_
      refine wr_y rfl (y_eq rfl rfl) ?_
      refine wr_nil ?_
      refine w_if rfl (fun hc6 => ?_) (fun hc6 => ?_)
      ·
        refine w_seq ?_
        refine w_reg ?_
        refine wr_y rfl (y_assign rfl) ?_
        refine wr_y rfl (y_assign rfl) ?_
        refine wr_nil ?_
        refine w_retR (R1 := []) (fun _ h => h.sel [] (by decide) rfl) ?_
        refine ⟨_, _, rfl, rfl, ?_⟩
        rfl
      ·
        have hne : r ≠ m := hc6
        refine w_skip ?_
        refine w_seq ?_
        refine w_reg ?_
        refine wr_y rfl (y_move rfl) ?_
        refine wr_y rfl (y_assign rfl) ?_
        refine wr_nil ?_
        refine w_seq ?_
        refine w_seq ?_
        refine w_reg ?_
        refine wr_y rfl (y_move rfl) ?_
        refine wr_y rfl (y_move rfl) ?_
        refine wr_y rfl (y_gt rfl rfl) ?_
        refine wr_nil ?_
        refine w_if rfl (fun hc7 => ?_) (fun hc7 => ?_)
        ·
          have hiv : r - 1 = ixr m r := by unfold ixr; split <;> omega
          have hxx : rd u (r - 1) = rd u (ixr m (bkRow u m (u.length - 1 - k).toNat)) := by rw [hiv, ← hr]
          have hib := ixr_bd (n := u.length) hbd.1 hbd.2 hne hm0 hm1 (by omega)
          rw [← hiv] at hib
          refine w_reg ?_
          refine wr_y rfl (y_move rfl) ?_
          refine wr_y rfl (y_subI rfl rfl (by omega)) ?_
          refine wr_y rfl (y_assign rfl) ?_
          refine wr_nil ?_
          refine w_seq ?_
          refine w_reg ?_
          refine wr_y rfl (y_move rfl) ?_
          refine wr_y rfl (y_move rfl) ?_
          refine wr_y rfl (y_move rfl) ?_
          refine wr_y rfl (y_move rfl) ?_
          refine wr_y rfl (y_index1 Try.underlying22 sz5 rfl rfl (h_u.c _) (by omega) (by omega)) ?_
          refine wr_y rfl (y_ldI Try.underlying5 rfl rfl (h_u.c _) (by omega) (by omega)) ?_
          refine wr_y rfl (y_index1 Try.underlying22 sz5 rfl rfl (rdr 0 rfl) (by omega) (by omega)) ?_
          refine wr_n (a_storeI 0 rfl sz5 rfl rfl (by omega) (by omega)) ?_
          rintro _ _ rfl
          refine wr_rows (R1 := [⟨5, 1, (some ⟨g_1, 0, none⟩), u.length, u.length, ints .u8 (upd S k (rd u (r - 1))), false⟩]) rfl ?_
          refine wr_nil ?_
          refine w_seq ?_
          refine w_reg ?_
          refine wr_y rfl (y_assign rfl) ?_
          refine wr_nil ?_
          refine w_seq ?_
          refine w_reg ?_
          refine wr_y rfl (y_assign rfl) ?_
          refine wr_nil ?_
          refine w_block ?_
          refine w_loop2 (fun (j : Int) (z : Int) => [(0, .slice A_u u.length c_u), (1, .int .i64 m), (6, .int .i64 ((u.length : Nat) : Int)), (7, .slice (some ⟨g_1, 0, none⟩) u.length u.length), (8, .int .i64 z), (9, .int .i64 k), (10, .int .i64 (r - 1)), (11, .int .i64 j)]) (fun (j : Int) (z : Int) => [⟨5, 1, (some ⟨g_1, 0, none⟩), u.length, u.length, ints .u8 (upd S k (rd u (r - 1))), false⟩]) (fun (j : Int) (z : Int) => (0 ≤ j) ∧ (j ≤ u.length) ∧ (z = 1 + (((iota j.toNat).countP fun x => decide (tl u x (r - 1)) : Nat) : Int))) (fun (j : Int) (z : Int) => (u.length - j).toNat) ?_ ?_
          ·
            exact ⟨0, 1, ⟨(by omega), (by omega), (rfl)⟩, (Sub.cons rfl (Sub.cons rfl (Sub.cons rfl (Sub.cons rfl (Sub.cons rfl (Sub.cons rfl (Sub.cons rfl (Sub.cons rfl Sub.nil)))))))), fun _ h => h⟩
          intro j z ⟨hj0, hj1, hz⟩
          have hzb := cnt_bd u (r - 1) j
          refine w_seq ?_
          refine w_seq ?_
          refine w_reg ?_
          refine wr_y rfl (y_move rfl) ?_
          refine wr_y rfl (y_move rfl) ?_
          refine wr_y rfl (y_lt rfl rfl) ?_
          refine wr_nil ?_
          refine w_if rfl (fun hc8 => ?_) (fun hc8 => ?_)
          ·
            refine w_skip ?_
            refine w_seq ?_
            refine w_block ?_
            refine w_join0 [(0, .slice A_u u.length c_u), (1, .int .i64 m), (6, .int .i64 ((u.length : Nat) : Int)), (7, .slice (some ⟨g_1, 0, none⟩) u.length u.length), (8, .int .i64 z), (9, .int .i64 k), (10, .int .i64 (r - 1)), (11, .int .i64 j), (84, .bool (decide (((rd u j) < (rd u (r - 1))) ∨ (((rd u j) = (rd u (r - 1))) ∧ (j < (r - 1))))))] [⟨5, 1, (some ⟨g_1, 0, none⟩), u.length, u.length, ints .u8 (upd S k (rd u (r - 1))), false⟩] ?_ ?_
            ·
              refine w_regd mixed ?_
              refine wd_y 0 rfl (by kernel_rfl) rfl (y_move rfl) ?_
              refine wd_y 1 rfl (by kernel_rfl) rfl (y_move rfl) ?_
              refine wd_y 2 rfl (by kernel_rfl) rfl (y_index1 Try.underlying22 sz5 rfl rfl (h_u.c _) (by omega) (by omega)) ?_
              refine wd_y 3 rfl (by kernel_rfl) rfl (y_ldI Try.underlying5 rfl rfl (h_u.c _) (by omega) (by omega)) ?_
              refine wd_y 4 rfl (by kernel_rfl) rfl (y_move rfl) ?_
              refine wd_y 5 rfl (by kernel_rfl) rfl (y_move rfl) ?_
              refine wd_y 6 rfl (by kernel_rfl) rfl (y_index1 Try.underlying22 sz5 rfl rfl (h_u.c _) (by omega) (by omega)) ?_
              refine wd_y 7 rfl (by kernel_rfl) rfl (y_ldI Try.underlying5 rfl rfl (h_u.c _) (by omega) (by omega)) ?_
              refine wd_y 8 rfl (by kernel_rfl) rfl (y_lt rfl rfl) ?_
              refine wd_y 9 rfl (by kernel_rfl) rfl (y_move rfl) ?_
              refine wd_case 69 rfl (fun hc9 => ?_) (fun hc9 => ?_)
              ·
                refine wd_no 10 rfl (by kernel_rfl) rfl rfl rfl rfl ?_
                refine wd_no 11 rfl (by kernel_rfl) rfl rfl rfl rfl ?_
                refine wd_no 12 rfl (by kernel_rfl) rfl rfl rfl rfl ?_
                refine wd_no 13 rfl (by kernel_rfl) rfl rfl rfl rfl ?_
                refine wd_no 14 rfl (by kernel_rfl) rfl rfl rfl rfl ?_
                refine wd_no 15 rfl (by kernel_rfl) rfl rfl rfl rfl ?_
                refine wd_no 16 rfl (by kernel_rfl) rfl rfl rfl rfl ?_
                refine wd_no 17 rfl (by kernel_rfl) rfl rfl rfl rfl ?_
                refine wd_no 18 rfl (by kernel_rfl) rfl rfl rfl rfl ?_
                refine wd_no 19 rfl (by kernel_rfl) rfl rfl rfl rfl ?_
                refine wd_nou 20 rfl (by kernel_rfl) rfl rfl rfl ?_
                refine wd_nou 21 rfl (by kernel_rfl) rfl rfl rfl ?_
                refine wd_nou 22 rfl (by kernel_rfl) rfl rfl rfl ?_
                refine wd_no 23 rfl (by kernel_rfl) rfl rfl rfl rfl ?_
                refine wd_y 24 rfl (by kernel_rfl) rfl (y_pickT rfl rfl) ?_
                refine wd_nil (by kernel_rfl) ?_
                exact ⟨(Sub.cons rfl (Sub.cons rfl (Sub.cons rfl (Sub.cons rfl (Sub.cons rfl (Sub.cons rfl (Sub.cons rfl (Sub.cons rfl (Sub.to rfl (mb_t (by first | omega | exact ⟨fun h => ⟨(by assumption), h⟩, fun h => h.2⟩ | simp [*])) Sub.nil))))))))), fun _ h => h⟩
              ·
                refine wd_yg 10 rfl (by kernel_rfl) rfl rfl rfl (y_move rfl) ?_
                refine wd_yg 11 rfl (by kernel_rfl) rfl rfl rfl (y_move rfl) ?_
                refine wd_yg 12 rfl (by kernel_rfl) rfl rfl rfl (y_index1 Try.underlying22 sz5 rfl rfl (h_u.c _) (by omega) (by omega)) ?_
                refine wd_yg 13 rfl (by kernel_rfl) rfl rfl rfl (y_ldI Try.underlying5 rfl rfl (h_u.c _) (by omega) (by omega)) ?_
                refine wd_yg 14 rfl (by kernel_rfl) rfl rfl rfl (y_move rfl) ?_
                refine wd_yg 15 rfl (by kernel_rfl) rfl rfl rfl (y_move rfl) ?_
                refine wd_yg 16 rfl (by kernel_rfl) rfl rfl rfl (y_index1 Try.underlying22 sz5 rfl rfl (h_u.c _) (by omega) (by omega)) ?_
                refine wd_yg 17 rfl (by kernel_rfl) rfl rfl rfl (y_ldI Try.underlying5 rfl rfl (h_u.c _) (by omega) (by omega)) ?_
                refine wd_yg 18 rfl (by kernel_rfl) rfl rfl rfl (y_eq rfl rfl) ?_
                refine wd_yg 19 rfl (by kernel_rfl) rfl rfl rfl (y_move rfl) ?_
                refine wd_case 79 rfl (fun hc10 => ?_) (fun hc10 => ?_)
                ·
                  refine wd_yg 20 rfl (by kernel_rfl) rfl rfl rfl (y_move rfl) ?_
                  refine wd_yg 21 rfl (by kernel_rfl) rfl rfl rfl (y_move rfl) ?_
                  refine wd_yg 22 rfl (by kernel_rfl) rfl rfl rfl (y_lt rfl rfl) ?_
                  refine wd_yg 23 rfl (by kernel_rfl) rfl rfl rfl (y_pickT rfl rfl) ?_
                  refine wd_y 24 rfl (by kernel_rfl) rfl (y_pickF rfl rfl) ?_
                  refine wd_nil (by kernel_rfl) ?_
                  exact ⟨(Sub.cons rfl (Sub.cons rfl (Sub.cons rfl (Sub.cons rfl (Sub.cons rfl (Sub.cons rfl (Sub.cons rfl (Sub.cons rfl (Sub.to rfl (mb (by first | omega | exact ⟨fun h => ⟨(by assumption), h⟩, fun h => h.2⟩ | simp [*])) Sub.nil))))))))), fun _ h => h⟩
                ·
                  refine wd_no 20 rfl (by kernel_rfl) rfl rfl rfl rfl ?_
                  refine wd_no 21 rfl (by kernel_rfl) rfl rfl rfl rfl ?_
                  refine wd_no 22 rfl (by kernel_rfl) rfl rfl rfl rfl ?_
                  refine wd_yg 23 rfl (by kernel_rfl) rfl rfl rfl (y_pickF rfl rfl) ?_
                  refine wd_y 24 rfl (by kernel_rfl) rfl (y_pickF rfl rfl) ?_
                  refine wd_nil (by kernel_rfl) ?_
                  exact ⟨(Sub.cons rfl (Sub.cons rfl (Sub.cons rfl (Sub.cons rfl (Sub.cons rfl (Sub.cons rfl (Sub.cons rfl (Sub.cons rfl (Sub.to rfl (mb_f (by first | omega | exact ⟨fun h => ⟨(by assumption), h⟩, fun h => h.2⟩ | simp [*])) Sub.nil))))))))), fun _ h => h⟩
            refine w_if rfl (fun hc11 => ?_) (fun hc11 => ?_)
            ·
              refine w_reg ?_
              refine wr_y rfl (y_move rfl) ?_
              refine wr_y rfl (y_addI rfl rfl (by omega)) ?_
              refine wr_y rfl (y_assign rfl) ?_
              refine wr_nil ?_
              refine w_reg ?_
              refine wr_y rfl (y_move rfl) ?_
              refine wr_y rfl (y_addI rfl rfl (by omega)) ?_
              refine wr_y rfl (y_assign rfl) ?_
              refine wr_nil ?_
              exact ⟨j + 1, z + 1, ⟨(by omega), (by omega), (cnt_yes hj0 hz (by assumption))⟩, (by omega), (Sub.cons rfl (Sub.cons rfl (Sub.cons rfl (Sub.cons rfl (Sub.cons rfl (Sub.cons rfl (Sub.cons rfl (Sub.cons rfl Sub.nil)))))))), fun _ h => h⟩
            ·
              refine w_skip ?_
              refine w_reg ?_
              refine wr_y rfl (y_move rfl) ?_
              refine wr_y rfl (y_addI rfl rfl (by omega)) ?_
              refine wr_y rfl (y_assign rfl) ?_
              refine wr_nil ?_
              exact ⟨j + 1, z, ⟨(by omega), (by omega), (cnt_no hj0 hz (by assumption))⟩, (by omega), (Sub.cons rfl (Sub.cons rfl (Sub.cons rfl (Sub.cons rfl (Sub.cons rfl (Sub.cons rfl (Sub.cons rfl (Sub.cons rfl Sub.nil)))))))), fun _ h => h⟩
          ·
            have hnx : z = bkRow u m (u.length - 1 - (k - 1)).toNat := (cnt_all hz (by omega)).trans (bk_next hk' hk1 hr hiv)
            refine w_exit ?_
            refine w_reg ?_
            refine wr_y rfl (y_move rfl) ?_
            refine wr_y rfl (y_subI rfl rfl (by omega)) ?_
            refine wr_y rfl (y_assign rfl) ?_
            refine wr_nil ?_
            exact ⟨k - 1, z, upd S k (rd u (r - 1)), ⟨(by omega), (by omega), (by rw [upd_length]; exact hSl), (hnx), (on_step hk' hk1 hon hr hne), (bk_step hk' hk1 hSl hS hxx)⟩, (by omega), (Sub.cons rfl (Sub.cons rfl (Sub.cons rfl (Sub.cons rfl (Sub.cons rfl (Sub.cons rfl Sub.nil)))))), fun _ h => h⟩
        ·
          have hiv : r = ixr m r := by unfold ixr; split <;> omega
          have hxx : rd u (r) = rd u (ixr m (bkRow u m (u.length - 1 - k).toNat)) := by rw [hiv, ← hr]
          have hib := ixr_bd (n := u.length) hbd.1 hbd.2 hne hm0 hm1 (by omega)
          rw [← hiv] at hib
          refine w_skip ?_
          refine w_seq ?_
          refine w_reg ?_
          refine wr_y rfl (y_move rfl) ?_
          refine wr_y rfl (y_move rfl) ?_
          refine wr_y rfl (y_move rfl) ?_
          refine wr_y rfl (y_move rfl) ?_
          refine wr_y rfl (y_index1 Try.underlying22 sz5 rfl rfl (h_u.c _) (by omega) (by omega)) ?_
          refine wr_y rfl (y_ldI Try.underlying5 rfl rfl (h_u.c _) (by omega) (by omega)) ?_
          refine wr_y rfl (y_index1 Try.underlying22 sz5 rfl rfl (rdr 0 rfl) (by omega) (by omega)) ?_
          refine wr_n (a_storeI 0 rfl sz5 rfl rfl (by omega) (by omega)) ?_
          rintro _ _ rfl
          refine wr_rows (R1 := [⟨5, 1, (some ⟨g_1, 0, none⟩), u.length, u.length, ints .u8 (upd S k (rd u r)), false⟩]) rfl ?_
          refine wr_nil ?_
          refine w_seq ?_
          refine w_reg ?_
          refine wr_y rfl (y_assign rfl) ?_
          refine wr_nil ?_
          refine w_seq ?_
          refine w_reg ?_
          refine wr_y rfl (y_assign rfl) ?_
          refine wr_nil ?_
          refine w_block ?_
          refine w_loop2 (fun (j : Int) (z : Int) => [(0, .slice A_u u.length c_u), (1, .int .i64 m), (6, .int .i64 ((u.length : Nat) : Int)), (7, .slice (some ⟨g_1, 0, none⟩) u.length u.length), (8, .int .i64 z), (9, .int .i64 k), (10, .int .i64 r), (11, .int .i64 j)]) (fun (j : Int) (z : Int) => [⟨5, 1, (some ⟨g_1, 0, none⟩), u.length, u.length, ints .u8 (upd S k (rd u r)), false⟩]) (fun (j : Int) (z : Int) => (0 ≤ j) ∧ (j ≤ u.length) ∧ (z = 1 + (((iota j.toNat).countP fun x => decide (tl u x (r)) : Nat) : Int))) (fun (j : Int) (z : Int) => (u.length - j).toNat) ?_ ?_
          ·
            exact ⟨0, 1, ⟨(by omega), (by omega), (rfl)⟩, (Sub.cons rfl (Sub.cons rfl (Sub.cons rfl (Sub.cons rfl (Sub.cons rfl (Sub.cons rfl (Sub.cons rfl (Sub.cons rfl Sub.nil)))))))), fun _ h => h⟩
          intro j z ⟨hj0, hj1, hz⟩
          have hzb := cnt_bd u (r) j
          refine w_seq ?_
          refine w_seq ?_
          refine w_reg ?_
          refine wr_y rfl (y_move rfl) ?_
          refine wr_y rfl (y_move rfl) ?_
          refine wr_y rfl (y_lt rfl rfl) ?_
          refine wr_nil ?_
          refine w_if rfl (fun hc12 => ?_) (fun hc12 => ?_)
          ·
            refine w_skip ?_
            refine w_seq ?_
            refine w_block ?_
            refine w_join0 [(0, .slice A_u u.length c_u), (1, .int .i64 m), (6, .int .i64 ((u.length : Nat) : Int)), (7, .slice (some ⟨g_1, 0, none⟩) u.length u.length), (8, .int .i64 z), (9, .int .i64 k), (10, .int .i64 r), (11, .int .i64 j), (84, .bool (decide (((rd u j) < (rd u r)) ∨ (((rd u j) = (rd u r)) ∧ (j < r)))))] [⟨5, 1, (some ⟨g_1, 0, none⟩), u.length, u.length, ints .u8 (upd S k (rd u r)), false⟩] ?_ ?_
            ·
              refine w_regd mixed ?_
              refine wd_y 0 rfl (by kernel_rfl) rfl (y_move rfl) ?_
              refine wd_y 1 rfl (by kernel_rfl) rfl (y_move rfl) ?_
              refine wd_y 2 rfl (by kernel_rfl) rfl (y_index1 Try.underlying22 sz5 rfl rfl (h_u.c _) (by omega) (by omega)) ?_
              refine wd_y 3 rfl (by kernel_rfl) rfl (y_ldI Try.underlying5 rfl rfl (h_u.c _) (by omega) (by omega)) ?_
              refine wd_y 4 rfl (by kernel_rfl) rfl (y_move rfl) ?_
              refine wd_y 5 rfl (by kernel_rfl) rfl (y_move rfl) ?_
              refine wd_y 6 rfl (by kernel_rfl) rfl (y_index1 Try.underlying22 sz5 rfl rfl (h_u.c _) (by omega) (by omega)) ?_
              refine wd_y 7 rfl (by kernel_rfl) rfl (y_ldI Try.underlying5 rfl rfl (h_u.c _) (by omega) (by omega)) ?_
              refine wd_y 8 rfl (by kernel_rfl) rfl (y_lt rfl rfl) ?_
              refine wd_y 9 rfl (by kernel_rfl) rfl (y_move rfl) ?_
              refine wd_case 69 rfl (fun hc13 => ?_) (fun hc13 => ?_)
              ·
                refine wd_no 10 rfl (by kernel_rfl) rfl rfl rfl rfl ?_
                refine wd_no 11 rfl (by kernel_rfl) rfl rfl rfl rfl ?_
                refine wd_no 12 rfl (by kernel_rfl) rfl rfl rfl rfl ?_
                refine wd_no 13 rfl (by kernel_rfl) rfl rfl rfl rfl ?_
                refine wd_no 14 rfl (by kernel_rfl) rfl rfl rfl rfl ?_
                refine wd_no 15 rfl (by kernel_rfl) rfl rfl rfl rfl ?_
                refine wd_no 16 rfl (by kernel_rfl) rfl rfl rfl rfl ?_
                refine wd_no 17 rfl (by kernel_rfl) rfl rfl rfl rfl ?_
                refine wd_no 18 rfl (by kernel_rfl) rfl rfl rfl rfl ?_
                refine wd_no 19 rfl (by kernel_rfl) rfl rfl rfl rfl ?_
                refine wd_nou 20 rfl (by kernel_rfl) rfl rfl rfl ?_
                refine wd_nou 21 rfl (by kernel_rfl) rfl rfl rfl ?_
                refine wd_nou 22 rfl (by kernel_rfl) rfl rfl rfl ?_
                refine wd_no 23 rfl (by kernel_rfl) rfl rfl rfl rfl ?_
                refine wd_y 24 rfl (by kernel_rfl) rfl (y_pickT rfl rfl) ?_
                refine wd_nil (by kernel_rfl) ?_
                exact ⟨(Sub.cons rfl (Sub.cons rfl (Sub.cons rfl (Sub.cons rfl (Sub.cons rfl (Sub.cons rfl (Sub.cons rfl (Sub.cons rfl (Sub.to rfl (mb_t (by first | omega | exact ⟨fun h => ⟨(by assumption), h⟩, fun h => h.2⟩ | simp [*])) Sub.nil))))))))), fun _ h => h⟩
              ·
                refine wd_yg 10 rfl (by kernel_rfl) rfl rfl rfl (y_move rfl) ?_
                refine wd_yg 11 rfl (by kernel_rfl) rfl rfl rfl (y_move rfl) ?_
                refine wd_yg 12 rfl (by kernel_rfl) rfl rfl rfl (y_index1 Try.underlying22 sz5 rfl rfl (h_u.c _) (by omega) (by omega)) ?_
                refine wd_yg 13 rfl (by kernel_rfl) rfl rfl rfl (y_ldI Try.underlying5 rfl rfl (h_u.c _) (by omega) (by omega)) ?_
                refine wd_yg 14 rfl (by kernel_rfl) rfl rfl rfl (y_move rfl) ?_
                refine wd_yg 15 rfl (by kernel_rfl) rfl rfl rfl (y_move rfl) ?_
                refine wd_yg 16 rfl (by kernel_rfl) rfl rfl rfl (y_index1 Try.underlying22 sz5 rfl rfl (h_u.c _) (by omega) (by omega)) ?_
                refine wd_yg 17 rfl (by kernel_rfl) rfl rfl rfl (y_ldI Try.underlying5 rfl rfl (h_u.c _) (by omega) (by omega)) ?_
                refine wd_yg 18 rfl (by kernel_rfl) rfl rfl rfl (y_eq rfl rfl) ?_
                refine wd_yg 19 rfl (by kernel_rfl) rfl rfl rfl (y_move rfl) ?_
                refine wd_case 79 rfl (fun hc14 => ?_) (fun hc14 => ?_)
                ·
                  refine wd_yg 20 rfl (by kernel_rfl) rfl rfl rfl (y_move rfl) ?_
                  refine wd_yg 21 rfl (by kernel_rfl) rfl rfl rfl (y_move rfl) ?_
                  refine wd_yg 22 rfl (by kernel_rfl) rfl rfl rfl (y_lt rfl rfl) ?_
                  refine wd_yg 23 rfl (by kernel_rfl) rfl rfl rfl (y_pickT rfl rfl) ?_
                  refine wd_y 24 rfl (by kernel_rfl) rfl (y_pickF rfl rfl) ?_
                  refine wd_nil (by kernel_rfl) ?_
                  exact ⟨(Sub.cons rfl (Sub.cons rfl (Sub.cons rfl (Sub.cons rfl (Sub.cons rfl (Sub.cons rfl (Sub.cons rfl (Sub.cons rfl (Sub.to rfl (mb (by first | omega | exact ⟨fun h => ⟨(by assumption), h⟩, fun h => h.2⟩ | simp [*])) Sub.nil))))))))), fun _ h => h⟩
                ·
                  refine wd_no 20 rfl (by kernel_rfl) rfl rfl rfl rfl ?_
                  refine wd_no 21 rfl (by kernel_rfl) rfl rfl rfl rfl ?_
                  refine wd_no 22 rfl (by kernel_rfl) rfl rfl rfl rfl ?_
                  refine wd_yg 23 rfl (by kernel_rfl) rfl rfl rfl (y_pickF rfl rfl) ?_
                  refine wd_y 24 rfl (by kernel_rfl) rfl (y_pickF rfl rfl) ?_
                  refine wd_nil (by kernel_rfl) ?_
                  exact ⟨(Sub.cons rfl (Sub.cons rfl (Sub.cons rfl (Sub.cons rfl (Sub.cons rfl (Sub.cons rfl (Sub.cons rfl (Sub.cons rfl (Sub.to rfl (mb_f (by first | omega | exact ⟨fun h => ⟨(by assumption), h⟩, fun h => h.2⟩ | simp [*])) Sub.nil))))))))), fun _ h => h⟩
            refine w_if rfl (fun hc15 => ?_) (fun hc15 => ?_)
            ·
              refine w_reg ?_
              refine wr_y rfl (y_move rfl) ?_
              refine wr_y rfl (y_addI rfl rfl (by omega)) ?_
              refine wr_y rfl (y_assign rfl) ?_
              refine wr_nil ?_
              refine w_reg ?_
              refine wr_y rfl (y_move rfl) ?_
              refine wr_y rfl (y_addI rfl rfl (by omega)) ?_
              refine wr_y rfl (y_assign rfl) ?_
              refine wr_nil ?_
              exact ⟨j + 1, z + 1, ⟨(by omega), (by omega), (cnt_yes hj0 hz (by assumption))⟩, (by omega), (Sub.cons rfl (Sub.cons rfl (Sub.cons rfl (Sub.cons rfl (Sub.cons rfl (Sub.cons rfl (Sub.cons rfl (Sub.cons rfl Sub.nil)))))))), fun _ h => h⟩
            ·
              refine w_skip ?_
              refine w_reg ?_
              refine wr_y rfl (y_move rfl) ?_
              refine wr_y rfl (y_addI rfl rfl (by omega)) ?_
              refine wr_y rfl (y_assign rfl) ?_
              refine wr_nil ?_
              exact ⟨j + 1, z, ⟨(by omega), (by omega), (cnt_no hj0 hz (by assumption))⟩, (by omega), (Sub.cons rfl (Sub.cons rfl (Sub.cons rfl (Sub.cons rfl (Sub.cons rfl (Sub.cons rfl (Sub.cons rfl (Sub.cons rfl Sub.nil)))))))), fun _ h => h⟩
          ·
            have hnx : z = bkRow u m (u.length - 1 - (k - 1)).toNat := (cnt_all hz (by omega)).trans (bk_next hk' hk1 hr hiv)
            refine w_exit ?_
            refine w_reg ?_
            refine wr_y rfl (y_move rfl) ?_
            refine wr_y rfl (y_subI rfl rfl (by omega)) ?_
            refine wr_y rfl (y_assign rfl) ?_
            refine wr_nil ?_
            exact ⟨k - 1, z, upd S k (rd u r), ⟨(by omega), (by omega), (by rw [upd_length]; exact hSl), (hnx), (on_step hk' hk1 hon hr hne), (bk_step hk' hk1 hSl hS hxx)⟩, (by omega), (Sub.cons rfl (Sub.cons rfl (Sub.cons rfl (Sub.cons rfl (Sub.cons rfl (Sub.cons rfl Sub.nil)))))), fun _ h => h⟩
    ·
      obtain rfl : S = bkOut u m := bk_done hSl fun j h1 h2 => hS j (by omega) h2
      refine w_exit ?_
      refine w_seq ?_
      refine w_reg ?_
      refine wr_y rfl (y_move rfl) ?_
      refine wr_a rfl (a_callF en15 rfl (Ct.fresh (fun w hw => rturn_ct ((rdr 0 rfl) w hw) (bkOut_byt bh_u m) (by rw [bkOut_len]; omega)))) ?_
      rintro _ _ ⟨_, rfl, b1, A_2, c_3, rfl, hp_b1, hs_b1, rfl⟩
      refine wr_y rfl (y_move rfl) ?_
      refine wr_y rfl (y_extract rfl rfl) ?_
      refine wr_y rfl (y_extract rfl rfl) ?_
      refine wr_y rfl (y_assign rfl) ?_
      refine wr_y rfl (y_assign rfl) ?_
      refine wr_nil ?_
      refine w_seq ?_
      refine w_seq ?_
      refine w_reg ?_
      refine wr_y rfl (y_move rfl) ?_
      refine wr_y rfl (y_toStr Try.underlying22 Try.underlying5 Try.underlying9 rfl (rdr 0 rfl)) ?_
      refine wr_y rfl (y_move rfl) ?_
      refine wr_y rfl (y_toStr Try.underlying22 Try.underlying5 Try.underlying9 rfl (h_u.c _)) ?_
      refine wr_y rfl (y_neL rfl rfl (ofL_byt (bkOut_byt bh_u m) hp_b1) bh_u) ?_
      refine wr_y rfl (y_move rfl) ?_
      refine wr_mid 4 [(7, .slice (some ⟨g_1, 0, none⟩) u.length u.length), (101, .bool (decide (((ofL (bkOut u m) b1) ≠ u) ∨ ((zat b1) ≠ m))))] [⟨5, 1, A_2, (ofL (bkOut u m) b1).length, c_3, ints .u8 (ofL (bkOut u m) b1), false⟩, ⟨5, 1, (some ⟨g_1, 0, none⟩), u.length, u.length, ints .u8 (bkOut u m), false⟩] ?_ ?_
      ·
        refine wr_case 97 rfl (fun hc16 => ?_) (fun hc16 => ?_)
        ·
          refine wr_no rfl rfl rfl rfl ?_
          refine wr_no rfl rfl rfl rfl ?_
          refine wr_no rfl rfl rfl rfl ?_
          refine wr_y rfl (y_pickT rfl rfl) ?_
          refine wr_nil ?_
          exact ⟨(Sub.cons rfl (Sub.to rfl (mb_t (by first | omega | exact ⟨fun h => ⟨(by assumption), h⟩, fun h => h.2⟩ | simp [*])) Sub.nil)), fun _ h => h⟩
        ·
          refine wr_yes rfl rfl ?_
          refine wr_y rfl (y_move rfl) ?_
          refine wr_yes rfl rfl ?_
          refine wr_y rfl (y_move rfl) ?_
          refine wr_yes rfl rfl ?_
          refine wr_y rfl (y_ne rfl rfl) ?_
          refine wr_y rfl (y_pickF rfl rfl) ?_
          refine wr_nil ?_
          exact ⟨(Sub.cons rfl (Sub.to rfl (mb (by first | omega | exact ⟨fun h => ⟨(by assumption), h⟩, fun h => h.2⟩ | simp [*])) Sub.nil)), fun _ h => h⟩
      refine wr_nil ?_
      refine w_if rfl (fun hc17 => ?_) (fun hc17 => ?_)
      ·
        refine w_seq ?_
        refine w_reg ?_
        refine wr_y rfl (y_assign rfl) ?_
        refine wr_y rfl (y_assign rfl) ?_
        refine wr_nil ?_
        refine w_retR (R1 := []) (fun _ h => h.sel [] (by decide) rfl) ?_
        refine ⟨_, _, rfl, rfl, ?_⟩
        rfl
      ·
        refine w_skip ?_
        refine w_seq ?_
        refine w_reg ?_
        refine wr_y rfl (y_move rfl) ?_
        refine wr_y rfl (y_assign rfl) ?_
        refine wr_y rfl (y_assign rfl) ?_
        refine wr_nil ?_
        refine w_retR (R1 := []) (fun _ h => h.sel [] (by decide) rfl) ?_
        refine ⟨_, _, rfl, rfl, ?_⟩
        have e1 := Decidable.not_not.1 fun h => hc17 (.inl h)
        have e2 := Decidable.not_not.1 fun h => hc17 (.inr h)
        have h := (turned_back (bkOut_byt bh_u m) hp_b1 hs_b1).1
        rw [e1, e2] at h
        exact absurd h hno

end Go.Proofs.Ytjgjjojecjeijaa
