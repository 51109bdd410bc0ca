/- Walks of Go functions, printed by a program of our own. -/
import Derived.Test.YtlagmdccneompaaJ1
import Derived.Test.YtlagmdccneompaaQ20
namespace Go.Proofs.Ytlagmdccneompaa
open Go Go.Eng Go.Pure
set_option linter.unusedVariables false
theorem ban_order : ([5, 3, 1, 0, 4, 2] : List Int).Perm (iota ([98, 97, 110, 97, 110, 97] : List Int).length) ∧ ([5, 3, 1, 0, 4, 2] : List Int).Pairwise (ordE [98, 97, 110, 97, 110, 97]) := by
  refine ⟨by decide +kernel, ?_⟩
  have h : ([5, 3, 1, 0, 4, 2] : List Int).Pairwise (fun x y => cmpL (([98, 97, 110, 97, 110, 97] : List Int).drop x.toNat) (([98, 97, 110, 97, 110, 97] : List Int).drop y.toNat) < 0) := by decide +kernel
  exact h.imp fun h => ordE_cmp.1 h
/-! whorl/whorllaw13.known -/
set_option maxRecDepth 100000 in
theorem known13_ct {w : World}  :
    Ct Try.prog 36 #[] w.heap.size w [] (fun v R' => v = .bool true) := by
  refine fn1 Try.func36 rfl rfl rfl ?_
  refine w_seq ?_
  refine w_reg ?_
  refine wr_y rfl (y_assign rfl) ?_
  refine wr_nil ?_
  refine w_seq ?_
  refine w_reg ?_
  refine wr_a rfl (a_litI .u8 [98, 97, 110, 97, 110, 97] Try.underlying31 zs5 rfl rfl rfl) ?_
  rintro _ _ ⟨g_2, rfl, rfl⟩
  refine wr_a rfl (a_mark 0 rfl rfl Try.underlying31 Try.underlying5 rfl rfl) ?_
  rintro _ _ ⟨rfl, rfl⟩
  refine wr_rows (R1 := [⟨5, 1, (some ⟨g_2, 0, none⟩), 6, 6, ints .u8 ([98, 97, 110, 97, 110, 97]), true⟩]) rfl ?_
  refine wr_a rfl (a_callF en37 rfl (Ct.fresh (fun w hw => sbytes_ct ((rdr 0 rfl) w hw) (by show ByteL [98, 97, 110, 97, 110, 97]; unfold ByteL; decide) (by show [98, 97, 110, 97, 110, 97].length ≤ 100000; decide)))) ?_
  rintro _ _ ⟨_, rfl, a1, A_3, c_4, rfl, hp_a1, hs_a1, rfl⟩
  refine wr_y rfl (y_move rfl) ?_
  refine wr_y rfl (y_extract rfl rfl) ?_
  refine wr_y rfl (y_extract rfl rfl) ?_
  refine wr_y rfl (y_assign rfl) ?_
  refine wr_y rfl (y_assign rfl) ?_
  refine wr_nil ?_
  refine w_seq ?_
  refine w_reg ?_
  refine wr_y rfl (y_move rfl) ?_
  refine wr_y rfl (Yl.t (y_eq rfl rfl) (rfl)) ?_
  refine wr_y rfl (y_move rfl) ?_
  refine wr_yes rfl rfl ?_
  refine wr_y rfl (y_move rfl) ?_
  refine wr_yes rfl rfl ?_
  refine wr_a rfl (a_litI .i64 [5, 3, 1, 0, 4, 2] Try.underlying22 zs3 rfl rfl rfl) ?_
  rintro _ _ ⟨g_7, rfl, rfl⟩
  refine wr_yes rfl rfl ?_
  refine wr_a rfl (a_callF en21 rfl (Ct.quiet (fun w hw => ints4_ct ((rdr 1 rfl) w hw) ((rdr 0 rfl) w hw) (by rw [hp_a1.length_eq, iota_len]; decide)))) ?_
  rintro _ _ ⟨rfl, rfl⟩
  refine wr_setT 14 rfl (one_orderE hp_a1 ban_order.1 hs_a1 ban_order.2) ?_
  refine wr_y rfl (y_pickT rfl rfl) ?_
  refine wr_y rfl (y_assign rfl) ?_
  refine wr_nil ?_
  refine w_retR (R1 := []) (fun _ h => h.sel [] (by decide) rfl) ?_
  refine ⟨_, rfl, ?_⟩
  rfl

/-! whorl/whorllaw13.SaisInts -/
set_option maxRecDepth 100000 in
theorem sIntsA_ct {w : World} {A_s : Option Addr} {n_s c_s : Nat} {s : List Int} {k : Int} (h_s : Rd w A_s n_s c_s 1 (ints .i64 s)) (hok : (0 ≤ k ∧ k ≤ 1048576) ∧ ∀ x ∈ s, 0 ≤ x ∧ x < k) :
    Ct Try.prog 14 #[.slice A_s n_s c_s, .int .i64 k] w.heap.size w [] (fun v R' => v = .bool true) := by
  obtain rfl := h_s.lenI
  refine fn1 Try.func14 rfl rfl rfl ?_
  have m_s := h_s.max
  refine w_seq ?_
  refine w_reg ?_
  refine wr_y rfl (y_assign rfl) ?_
  refine wr_nil ?_
  refine w_seq ?_
  refine w_seq ?_
  refine w_reg ?_
  refine wr_y rfl (y_move rfl) ?_
  refine wr_y rfl (y_len Try.underlying22 rfl) ?_
  refine wr_y rfl (y_gt rfl rfl) ?_
  refine wr_y rfl (y_move rfl) ?_
  refine wr_mid 7 [(0, .slice A_s s.length c_s), (1, .int .i64 k), (19, .bool (decide ((120 < ((s.length : Nat) : Int)) ∨ ((5000 < k) ∧ (k ≤ 1048576)))))] [] ?_ ?_
  ·
    refine wr_case 12 rfl (fun hc1 => ?_) (fun hc1 => ?_)
    ·
      refine wr_no rfl rfl rfl rfl ?_
      refine wr_no rfl rfl rfl rfl ?_
      refine wr_no rfl rfl rfl rfl ?_
      refine wr_nou rfl rfl rfl ?_
      refine wr_nou rfl rfl rfl ?_
      refine wr_no rfl rfl rfl rfl ?_
      refine wr_y rfl (y_pickT rfl rfl) ?_
      refine wr_nil ?_
      exact ⟨(Sub.cons rfl (Sub.cons rfl (Sub.to rfl (mb_t (by first | omega | exact ⟨fun h => ⟨(by assumption), h⟩, fun h => h.2⟩ | simp [*])) Sub.nil))), fun _ h => h⟩
    ·
      refine wr_yes rfl rfl ?_
      refine wr_y rfl (y_move rfl) ?_
      refine wr_yes rfl rfl ?_
      refine wr_y rfl (y_gt rfl rfl) ?_
      refine wr_yes rfl rfl ?_
      refine wr_y rfl (y_move rfl) ?_
      refine wr_mid 3 [(0, .slice A_s s.length c_s), (1, .int .i64 k), (12, .bool false), (18, .bool (decide ((5000 < k) ∧ (k ≤ 1048576))))] [] ?_ ?_
      ·
        refine wr_case 15 rfl (fun hc2 => ?_) (fun hc2 => ?_)
        ·
          refine wr_yes rfl rfl ?_
          refine wr_y rfl (y_move rfl) ?_
          refine wr_yes rfl rfl ?_
          refine wr_y rfl (y_le rfl rfl) ?_
          refine wr_yes rfl rfl ?_
          refine wr_y rfl (y_pickT rfl rfl) ?_
          refine wr_nil ?_
          exact ⟨(Sub.cons rfl (Sub.cons rfl (Sub.cons rfl (Sub.to rfl (mb (by first | omega | exact ⟨fun h => ⟨(by assumption), h⟩, fun h => h.2⟩ | simp [*])) Sub.nil)))), fun _ h => h⟩
        ·
          refine wr_no rfl rfl rfl rfl ?_
          refine wr_no rfl rfl rfl rfl ?_
          refine wr_yes rfl rfl ?_
          refine wr_y rfl (y_pickF rfl rfl) ?_
          refine wr_nil ?_
          exact ⟨(Sub.cons rfl (Sub.cons rfl (Sub.cons rfl (Sub.to rfl (mb_f (by first | omega | exact ⟨fun h => ⟨(by assumption), h⟩, fun h => h.2⟩ | simp [*])) Sub.nil)))), fun _ h => h⟩
      refine wr_y rfl (y_pickF rfl rfl) ?_
      refine wr_nil ?_
      exact ⟨(Sub.cons rfl (Sub.cons rfl (Sub.to rfl (mb (by first | omega | exact ⟨fun h => ⟨(by assumption), h⟩, fun h => h.2⟩ | simp [*])) Sub.nil))), fun _ h => h⟩
  refine wr_nil ?_
  refine w_if rfl (fun hc3 => ?_) (fun hc3 => ?_)
  ·
    refine w_seq ?_
    refine w_reg ?_
    refine wr_y rfl (y_assign rfl) ?_
    refine wr_nil ?_
    refine w_ret ?_
    refine ⟨_, rfl, ?_⟩
    rfl
  ·
    refine w_skip ?_
    refine w_seq ?_
    refine w_reg ?_
    refine wr_y rfl (y_move rfl) ?_
    refine wr_y rfl (y_move rfl) ?_
    refine wr_a rfl (a_callF en35 rfl (Ct.fresh (fun w hw => sints_ct ((h_s.c _) w hw) (by first | assumption | omega | decide) (by omega)))) ?_
    rintro _ _ ⟨_, rfl, a1, A_1, c_2, rfl, hp_a1, hs_a1, rfl⟩
    refine wr_y rfl (y_move rfl) ?_
    refine wr_y rfl (y_extract rfl rfl) ?_
    refine wr_y rfl (y_extract rfl rfl) ?_
    refine wr_y rfl (y_assign rfl) ?_
    refine wr_y rfl (y_assign rfl) ?_
    refine wr_nil ?_
    refine w_seq ?_
    refine w_reg ?_
    refine wr_y rfl (y_move rfl) ?_
    refine wr_y rfl (y_move rfl) ?_
    refine wr_a rfl (a_callF en20 rfl (Ct.fresh (fun w hw => ints13_ct ((h_s.c _) w hw) (by first | assumption | omega | decide) (by omega)))) ?_
    rintro _ _ ⟨_, rfl, b1, A_4, c_5, rfl, hp_b1, hs_b1, rfl⟩
    refine wr_y rfl (y_move rfl) ?_
    refine wr_y rfl (y_extract rfl rfl) ?_
    refine wr_y rfl (y_extract rfl rfl) ?_
    refine wr_y rfl (y_assign rfl) ?_
    refine wr_y rfl (y_assign rfl) ?_
    refine wr_nil ?_
    refine w_seq ?_
    refine w_reg ?_
    refine wr_y rfl (y_move rfl) ?_
    refine wr_y rfl (y_move rfl) ?_
    refine wr_a rfl (a_callF en21 rfl (Ct.quiet (fun w hw => ints4_ct ((rdr 1 rfl) w hw) ((rdr 0 rfl) w hw) (by rw [hp_a1.length_eq, iota_len]; omega)))) ?_
    rintro _ _ ⟨rfl, rfl⟩
    refine wr_setT 34 rfl (one_orderE hp_a1 hp_b1 hs_a1 hs_b1) ?_
    refine wr_y rfl (y_move rfl) ?_
    refine wr_yes rfl rfl ?_
    refine wr_y rfl (y_move rfl) ?_
    refine wr_yes rfl rfl ?_
    refine wr_y rfl (y_move rfl) ?_
    refine wr_yes rfl rfl ?_
    refine wr_y rfl (Yl.t (y_eq rfl rfl) (rfl)) ?_
    refine wr_y rfl (y_pickT rfl rfl) ?_
    refine wr_y rfl (y_move rfl) ?_
    refine wr_yes rfl rfl ?_
    refine wr_a rfl (a_callF en36 rfl (Ct.quiet (fun w hw => known13_ct))) ?_
    rintro _ _ ⟨rfl, rfl⟩
    refine wr_y rfl (y_pickT rfl rfl) ?_
    refine wr_y rfl (y_assign rfl) ?_
    refine wr_nil ?_
    refine w_retR (R1 := []) (fun _ h => h.sel [] (by decide) rfl) ?_
    refine ⟨_, rfl, ?_⟩
    rfl

/-! whorl/whorllaw13.SaisInts -/
set_option maxRecDepth 100000 in
theorem sIntsB_ct {w : World} {A_s : Option Addr} {n_s c_s : Nat} {s : List Int} {k : Int} (h_s : Rd w A_s n_s c_s 1 (ints .i64 s)) (hno : ¬ ((0 ≤ k ∧ k ≤ 1048576) ∧ ∀ x ∈ s, 0 ≤ x ∧ x < k)) :
    Ct Try.prog 14 #[.slice A_s n_s c_s, .int .i64 k] w.heap.size w [] (fun v R' => v = .bool true) := by
  obtain rfl := h_s.lenI
  refine fn1 Try.func14 rfl rfl rfl ?_
  have m_s := h_s.max
  refine w_seq ?_
  refine w_reg ?_
  refine wr_y rfl (y_assign rfl) ?_
  refine wr_nil ?_
  refine w_seq ?_
  refine w_seq ?_
  refine w_reg ?_
  refine wr_y rfl (y_move rfl) ?_
  refine wr_y rfl (y_len Try.underlying22 rfl) ?_
  refine wr_y rfl (y_gt rfl rfl) ?_
  refine wr_y rfl (y_move rfl) ?_
  refine wr_mid 7 [(0, .slice A_s s.length c_s), (1, .int .i64 k), (19, .bool (decide ((120 < ((s.length : Nat) : Int)) ∨ ((5000 < k) ∧ (k ≤ 1048576)))))] [] ?_ ?_
  ·
    refine wr_case 12 rfl (fun hc1 => ?_) (fun hc1 => ?_)
    ·
      refine wr_no rfl rfl rfl rfl ?_
      refine wr_no rfl rfl rfl rfl ?_
      refine wr_no rfl rfl rfl rfl ?_
      refine wr_nou rfl rfl rfl ?_
      refine wr_nou rfl rfl rfl ?_
      refine wr_no rfl rfl rfl rfl ?_
      refine wr_y rfl (y_pickT rfl rfl) ?_
      refine wr_nil ?_
      exact ⟨(Sub.cons rfl (Sub.cons rfl (Sub.to rfl (mb_t (by first | omega | exact ⟨fun h => ⟨(by assumption), h⟩, fun h => h.2⟩ | simp [*])) Sub.nil))), fun _ h => h⟩
    ·
      refine wr_yes rfl rfl ?_
      refine wr_y rfl (y_move rfl) ?_
      refine wr_yes rfl rfl ?_
      refine wr_y rfl (y_gt rfl rfl) ?_
      refine wr_yes rfl rfl ?_
      refine wr_y rfl (y_move rfl) ?_
      refine wr_mid 3 [(0, .slice A_s s.length c_s), (1, .int .i64 k), (12, .bool false), (18, .bool (decide ((5000 < k) ∧ (k ≤ 1048576))))] [] ?_ ?_
      ·
        refine wr_case 15 rfl (fun hc2 => ?_) (fun hc2 => ?_)
        ·
          refine wr_yes rfl rfl ?_
          refine wr_y rfl (y_move rfl) ?_
          refine wr_yes rfl rfl ?_
          refine wr_y rfl (y_le rfl rfl) ?_
          refine wr_yes rfl rfl ?_
          refine wr_y rfl (y_pickT rfl rfl) ?_
          refine wr_nil ?_
          exact ⟨(Sub.cons rfl (Sub.cons rfl (Sub.cons rfl (Sub.to rfl (mb (by first | omega | exact ⟨fun h => ⟨(by assumption), h⟩, fun h => h.2⟩ | simp [*])) Sub.nil)))), fun _ h => h⟩
        ·
          refine wr_no rfl rfl rfl rfl ?_
          refine wr_no rfl rfl rfl rfl ?_
          refine wr_yes rfl rfl ?_
          refine wr_y rfl (y_pickF rfl rfl) ?_
          refine wr_nil ?_
          exact ⟨(Sub.cons rfl (Sub.cons rfl (Sub.cons rfl (Sub.to rfl (mb_f (by first | omega | exact ⟨fun h => ⟨(by assumption), h⟩, fun h => h.2⟩ | simp [*])) Sub.nil)))), fun _ h => h⟩
      refine wr_y rfl (y_pickF rfl rfl) ?_
      refine wr_nil ?_
      exact ⟨(Sub.cons rfl (Sub.cons rfl (Sub.to rfl (mb (by first | omega | exact ⟨fun h => ⟨(by assumption), h⟩, fun h => h.2⟩ | simp [*])) Sub.nil))), fun _ h => h⟩
  refine wr_nil ?_
  refine w_if rfl (fun hc3 => ?_) (fun hc3 => ?_)
  ·
    refine w_seq ?_
    refine w_reg ?_
    refine wr_y rfl (y_assign rfl) ?_
    refine wr_nil ?_
    refine w_ret ?_
    refine ⟨_, rfl, ?_⟩
    rfl
  ·
    refine w_skip ?_
    refine w_seq ?_
    refine w_reg ?_
    refine wr_y rfl (y_move rfl) ?_
    refine wr_y rfl (y_move rfl) ?_
    refine wr_a rfl (a_callF en35 rfl (Ct.quiet (fun w hw => sintsNo_ct ((h_s.c _) w hw) (by first | assumption | omega | decide) (by omega)))) ?_
    rintro _ _ ⟨rfl, rfl⟩
    refine wr_y rfl (y_move rfl) ?_
    refine wr_y rfl (y_extract rfl rfl) ?_
    refine wr_y rfl (y_extract rfl rfl) ?_
    refine wr_y rfl (y_assign rfl) ?_
    refine wr_y rfl (y_assign rfl) ?_
    refine wr_nil ?_
    refine w_seq ?_
    refine w_reg ?_
    refine wr_y rfl (y_move rfl) ?_
    refine wr_y rfl (y_move rfl) ?_
    refine wr_a rfl (a_callF en20 rfl (Ct.quiet (fun w hw => ints13no_ct ((h_s.c _) w hw) (by first | assumption | omega | decide) (by omega)))) ?_
    rintro _ _ ⟨rfl, rfl⟩
    refine wr_y rfl (y_move rfl) ?_
    refine wr_y rfl (y_extract rfl rfl) ?_
    refine wr_y rfl (y_extract rfl rfl) ?_
    refine wr_y rfl (y_assign rfl) ?_
    refine wr_y rfl (y_assign rfl) ?_
    refine wr_nil ?_
    refine w_seq ?_
    refine w_reg ?_
    refine wr_y rfl (y_move rfl) ?_
    refine wr_y rfl (y_move rfl) ?_
    refine wr_a rfl (a_callF en21 rfl (Ct.quiet (fun w hw => ints4_ct ((rd_nil _) w hw) ((rd_nil _) w hw) (by decide)))) ?_
    rintro _ _ ⟨rfl, rfl⟩
    refine wr_setT 34 rfl (rfl) ?_
    refine wr_y rfl (y_move rfl) ?_
    refine wr_yes rfl rfl ?_
    refine wr_y rfl (y_move rfl) ?_
    refine wr_yes rfl rfl ?_
    refine wr_y rfl (y_move rfl) ?_
    refine wr_yes rfl rfl ?_
    refine wr_y rfl (Yl.t (y_eq rfl rfl) (rfl)) ?_
    refine wr_y rfl (y_pickT rfl rfl) ?_
    refine wr_y rfl (y_move rfl) ?_
    refine wr_yes rfl rfl ?_
    refine wr_a rfl (a_callF en36 rfl (Ct.quiet (fun w hw => known13_ct))) ?_
    rintro _ _ ⟨rfl, rfl⟩
    refine wr_y rfl (y_pickT rfl rfl) ?_
    refine wr_y rfl (y_assign rfl) ?_
    refine wr_nil ?_
    refine w_ret ?_
    refine ⟨_, rfl, ?_⟩
    rfl

theorem saisInts_ct {w : World} {A_s : Option Addr} {n_s c_s : Nat} {s : List Int} {k : Int} (h_s : Rd w A_s n_s c_s 1 (ints .i64 s)) :
    Ct Try.prog 14 #[.slice A_s n_s c_s, .int .i64 k] w.heap.size w [] (fun v R' => v = .bool true) := by
  by_cases hcase : (0 ≤ k ∧ k ≤ 1048576) ∧ ∀ x ∈ s, 0 ≤ x ∧ x < k
  · exact sIntsA_ct h_s hcase
  · exact sIntsB_ct h_s hcase
/-! whorl/whorllaw13.SaisBytes -/
set_option maxRecDepth 100000 in
theorem saisBytes_ct {w : World} {A_u : Option Addr} {n_u c_u : Nat} {u : List Int} (h_u : Rd w A_u n_u c_u 1 (ints .u8 u)) (bh_u : ByteL u) :
    Ct Try.prog 15 #[.slice A_u n_u c_u] w.heap.size w [] (fun v R' => v = .bool true) := by
  obtain rfl := h_u.lenI
  refine fn1 Try.func15 rfl rfl rfl ?_
  have m_u := h_u.max
  refine w_seq ?_
  refine w_reg ?_
  refine wr_y rfl (y_assign rfl) ?_
  refine wr_nil ?_
  refine w_seq ?_
  refine w_seq ?_
  refine w_reg ?_
  refine wr_y rfl (y_move rfl) ?_
  refine wr_y rfl (y_len Try.underlying31 rfl) ?_
  refine wr_y rfl (y_gt rfl rfl) ?_
  refine wr_nil ?_
  refine w_if rfl (fun hc1 => ?_) (fun hc1 => ?_)
  ·
    refine w_seq ?_
    refine w_reg ?_
    refine wr_y rfl (y_assign rfl) ?_
    refine wr_nil ?_
    refine w_ret ?_
    refine ⟨_, rfl, ?_⟩
    rfl
  ·
    refine w_skip ?_
    refine w_seq ?_
    refine w_reg ?_
    refine wr_y rfl (y_move rfl) ?_
    refine wr_a rfl (a_callF en37 rfl (Ct.fresh (fun w hw => sbytes_ct ((h_u.c _) w hw) (by first | assumption | omega | decide) (by omega)))) ?_
    rintro _ _ ⟨_, rfl, a1, A_1, c_2, rfl, hp_a1, hs_a1, rfl⟩
    refine wr_y rfl (y_move rfl) ?_
    refine wr_y rfl (y_extract rfl rfl) ?_
    refine wr_y rfl (y_extract rfl rfl) ?_
    refine wr_y rfl (y_assign rfl) ?_
    refine wr_y rfl (y_assign rfl) ?_
    refine wr_nil ?_
    refine w_seq ?_
    refine w_reg ?_
    refine wr_y rfl (y_move rfl) ?_
    refine wr_y rfl (Yl.t (y_eq rfl rfl) (rfl)) ?_
    refine wr_y rfl (y_move rfl) ?_
    refine wr_yes rfl rfl ?_
    refine wr_y rfl (y_move rfl) ?_
    refine wr_yes rfl rfl ?_
    refine wr_y rfl (y_move rfl) ?_
    refine wr_yes rfl rfl ?_
    refine wr_a rfl (a_callF en24 rfl (Ct.fresh (fun w hw => bytes13_ct ((h_u.c _) w hw) (by first | assumption | omega | decide) (by omega)))) ?_
    rintro _ _ ⟨_, rfl, b1, A_4, c_5, rfl, hp_b1, hs_b1, rfl⟩
    refine wr_yes rfl rfl ?_
    refine wr_a rfl (a_callF en21 rfl (Ct.quiet (fun w hw => ints4_ct ((rdr 1 rfl) w hw) ((rdr 0 rfl) w hw) (by rw [hp_a1.length_eq, iota_len]; omega)))) ?_
    rintro _ _ ⟨rfl, rfl⟩
    refine wr_setT 19 rfl (one_orderE hp_a1 hp_b1 hs_a1 hs_b1) ?_
    refine wr_y rfl (y_pickT rfl rfl) ?_
    refine wr_y rfl (y_move rfl) ?_
    refine wr_yes rfl rfl ?_
    refine wr_a rfl (a_callF en36 rfl (Ct.quiet (fun w hw => known13_ct))) ?_
    rintro _ _ ⟨rfl, rfl⟩
    refine wr_y rfl (y_pickT rfl rfl) ?_
    refine wr_y rfl (y_assign rfl) ?_
    refine wr_nil ?_
    refine w_retR (R1 := []) (fun _ h => h.sel [] (by decide) rfl) ?_
    refine ⟨_, rfl, ?_⟩
    rfl

/-! whorl/whorllaw13.SaisRuns -/
set_option maxRecDepth 100000 in
theorem saisRuns_ct {w : World} {A_a : Option Addr} {n_a c_a : Nat} {a : List Int} {times : Int} {A_b : Option Addr} {n_b c_b : Nat} {b : List Int} (h_a : Rd w A_a n_a c_a 1 (ints .u8 a)) (h_b : Rd w A_b n_b c_b 1 (ints .u8 b)) (bh_a : ByteL a) (bh_b : ByteL b) :
    Ct Try.prog 16 #[.slice A_a n_a c_a, .int .i64 times, .slice A_b n_b c_b] w.heap.size w [] (fun v R' => v = .bool true) := by
  obtain rfl := h_a.lenI
  obtain rfl := h_b.lenI
  refine fn1 Try.func16 rfl rfl rfl ?_
  have m_a := h_a.max
  have m_b := h_b.max
  refine w_seq ?_
  refine w_reg ?_
  refine wr_y rfl (y_assign rfl) ?_
  refine wr_nil ?_
  refine w_seq ?_
  refine w_seq ?_
  refine w_reg ?_
  refine wr_y rfl (y_move rfl) ?_
  refine wr_y rfl (y_len Try.underlying31 rfl) ?_
  refine wr_y rfl (y_gt rfl rfl) ?_
  refine wr_y rfl (y_move rfl) ?_
  refine wr_mid 3 [(0, .slice A_a a.length c_a), (1, .int .i64 times), (2, .slice A_b b.length c_b), (17, .bool (decide ((10 < ((a.length : Nat) : Int)) ∨ (times < 0))))] [] ?_ ?_
  ·
    refine wr_case 14 rfl (fun hc1 => ?_) (fun hc1 => ?_)
    ·
      refine wr_no rfl rfl rfl rfl ?_
      refine wr_no rfl rfl rfl rfl ?_
      refine wr_y rfl (y_pickT rfl rfl) ?_
      refine wr_nil ?_
      exact ⟨(Sub.cons rfl (Sub.cons rfl (Sub.cons rfl (Sub.to rfl (mb_t (by first | omega | exact ⟨fun h => ⟨(by assumption), h⟩, fun h => h.2⟩ | simp [*])) Sub.nil)))), fun _ h => h⟩
    ·
      refine wr_yes rfl rfl ?_
      refine wr_y rfl (y_move rfl) ?_
      refine wr_yes rfl rfl ?_
      refine wr_y rfl (y_lt rfl rfl) ?_
      refine wr_y rfl (y_pickF rfl rfl) ?_
      refine wr_nil ?_
      exact ⟨(Sub.cons rfl (Sub.cons rfl (Sub.cons rfl (Sub.to rfl (mb (by first | omega | exact ⟨fun h => ⟨(by assumption), h⟩, fun h => h.2⟩ | simp [*])) Sub.nil)))), fun _ h => h⟩
  refine wr_y rfl (y_move rfl) ?_
  refine wr_mid 3 [(0, .slice A_a a.length c_a), (1, .int .i64 times), (2, .slice A_b b.length c_b), (21, .bool (decide (((10 < ((a.length : Nat) : Int)) ∨ (times < 0)) ∨ (20 < times))))] [] ?_ ?_
  ·
    refine wr_case 18 rfl (fun hc2 => ?_) (fun hc2 => ?_)
    ·
      refine wr_no rfl rfl rfl rfl ?_
      refine wr_no rfl rfl rfl rfl ?_
      refine wr_y rfl (y_pickT rfl rfl) ?_
      refine wr_nil ?_
      exact ⟨(Sub.cons rfl (Sub.cons rfl (Sub.cons rfl (Sub.to rfl (mb_t (by first | omega | exact ⟨fun h => ⟨(by assumption), h⟩, fun h => h.2⟩ | simp [*])) Sub.nil)))), fun _ h => h⟩
    ·
      refine wr_yes rfl rfl ?_
      refine wr_y rfl (y_move rfl) ?_
      refine wr_yes rfl rfl ?_
      refine wr_y rfl (y_gt rfl rfl) ?_
      refine wr_y rfl (y_pickF rfl rfl) ?_
      refine wr_nil ?_
      exact ⟨(Sub.cons rfl (Sub.cons rfl (Sub.cons rfl (Sub.to rfl (mb (by first | omega | exact ⟨fun h => ⟨(by assumption), h⟩, fun h => h.2⟩ | simp [*])) Sub.nil)))), fun _ h => h⟩
  refine wr_y rfl (y_move rfl) ?_
  refine wr_mid 4 [(0, .slice A_a a.length c_a), (1, .int .i64 times), (2, .slice A_b b.length c_b), (26, .bool (decide ((((10 < ((a.length : Nat) : Int)) ∨ (times < 0)) ∨ (20 < times)) ∨ (10 < ((b.length : Nat) : Int)))))] [] ?_ ?_
  ·
    refine wr_case 22 rfl (fun hc3 => ?_) (fun hc3 => ?_)
    ·
      refine wr_no rfl rfl rfl rfl ?_
      refine wr_no rfl rfl rfl rfl ?_
      refine wr_no rfl rfl rfl rfl ?_
      refine wr_y rfl (y_pickT rfl rfl) ?_
      refine wr_nil ?_
      exact ⟨(Sub.cons rfl (Sub.cons rfl (Sub.cons rfl (Sub.to rfl (mb_t (by first | omega | exact ⟨fun h => ⟨(by assumption), h⟩, fun h => h.2⟩ | simp [*])) Sub.nil)))), fun _ h => h⟩
    ·
      refine wr_yes rfl rfl ?_
      refine wr_y rfl (y_move rfl) ?_
      refine wr_yes rfl rfl ?_
      refine wr_y rfl (y_len Try.underlying31 rfl) ?_
      refine wr_yes rfl rfl ?_
      refine wr_y rfl (y_gt rfl rfl) ?_
      refine wr_y rfl (y_pickF rfl rfl) ?_
      refine wr_nil ?_
      exact ⟨(Sub.cons rfl (Sub.cons rfl (Sub.cons rfl (Sub.to rfl (mb (by first | omega | exact ⟨fun h => ⟨(by assumption), h⟩, fun h => h.2⟩ | simp [*])) Sub.nil)))), fun _ h => h⟩
  refine wr_nil ?_
  refine w_if rfl (fun hc4 => ?_) (fun hc4 => ?_)
  ·
    refine w_seq ?_
    refine w_reg ?_
    refine wr_y rfl (y_assign rfl) ?_
    refine wr_nil ?_
    refine w_ret ?_
    refine ⟨_, rfl, ?_⟩
    rfl
  ·
    refine w_skip ?_
    refine w_seq ?_
    refine w_reg ?_
    refine wr_sub (R1 := [⟨5, 1, none, 0, 0, ints .u8 ([]), false⟩]) (Sub.refl _) (fun _ h => h.nil 5 1) ?_
    refine wr_y rfl (y_assign rfl) ?_
    refine wr_nil ?_
    refine w_seq ?_
    refine w_seq ?_
    refine w_reg ?_
    refine wr_y rfl (y_assign rfl) ?_
    refine wr_nil ?_
    refine w_block ?_
    refine w_loop5 (fun (A1 : Option Addr) (n1 : Nat) (c1 : Nat) (acc : List Int) (i : Int) => [(0, .slice A_a a.length c_a), (1, .int .i64 times), (2, .slice A_b b.length c_b), (7, .slice A1 n1 c1), (8, .int .i64 i)]) (fun (A1 : Option Addr) (n1 : Nat) (c1 : Nat) (acc : List Int) (i : Int) => [⟨5, 1, A1, n1, c1, ints .u8 acc, false⟩]) (fun (A1 : Option Addr) (n1 : Nat) (c1 : Nat) (acc : List Int) (i : Int) => (n1 = acc.length) ∧ (0 ≤ i) ∧ (i ≤ times) ∧ (acc = rep a i)) (fun (A1 : Option Addr) (n1 : Nat) (c1 : Nat) (acc : List Int) (i : Int) => (times - i).toNat) ?_ ?_
    ·
      exact ⟨none, 0, 0, [], 0, ⟨(rfl), (by omega), (by omega), (rfl)⟩, (Sub.cons rfl (Sub.cons rfl (Sub.cons rfl (Sub.cons rfl (Sub.cons rfl Sub.nil))))), fun _ h => h⟩
    intro A1 n1 c1 acc i ⟨hn1, hi0, hi1, hacc⟩
    have hal : acc.length ≤ 200 := by
      rw [hacc, rep_length]
      have := Nat.mul_le_mul (show i.toNat ≤ 20 by omega) (show a.length ≤ 10 by omega)
      omega
    refine w_seq ?_
    refine w_seq ?_
    refine w_reg ?_
    refine wr_y rfl (y_move rfl) ?_
    refine wr_y rfl (y_move rfl) ?_
    refine wr_y rfl (y_lt rfl rfl) ?_
    refine wr_nil ?_
    refine w_if rfl (fun hc5 => ?_) (fun hc5 => ?_)
    ·
      refine w_skip ?_
      refine w_seq ?_
      refine w_block ?_
      refine w_reg ?_
      refine wr_y rfl (y_move rfl) ?_
      refine wr_y rfl (y_move rfl) ?_
      refine wr_a rfl (a_appendI 0 rfl Try.underlying31 zb5 rfl rfl rfl (h_a.c _) (by omega)) ?_
      rintro _ _ ⟨A_1, c_2, rfl, rfl⟩
      refine wr_rows (R1 := [⟨5, 1, A_1, (n1 + a.length), c_2, ints .u8 (acc ++ a), false⟩]) rfl ?_
      refine wr_as (v := .slice A_1 (n1 + a.length) c_2) rfl ?_
      refine wr_y rfl (y_assign rfl) ?_
      refine wr_nil ?_
      refine w_reg ?_
      refine wr_y rfl (y_move rfl) ?_
      refine wr_y rfl (y_addI rfl rfl (by omega)) ?_
      refine wr_y rfl (y_assign rfl) ?_
      refine wr_nil ?_
      exact ⟨A_1, n1 + a.length, c_2, acc ++ a, i + 1, ⟨(by rw [List.length_append, hn1]), (by omega), (by omega), (by rw [rep_succ hi0, hacc])⟩, (by omega), (Sub.cons rfl (Sub.cons rfl (Sub.cons rfl (Sub.cons rfl (Sub.cons rfl Sub.nil))))), fun _ h => h⟩
    ·
      refine w_exit ?_
      refine w_seq ?_
      refine w_reg ?_
      refine wr_y rfl (y_move rfl) ?_
      refine wr_y rfl (y_move rfl) ?_
      refine wr_a rfl (a_appendI 0 rfl Try.underlying31 zb5 rfl rfl rfl (h_b.c _) (by omega)) ?_
      rintro _ _ ⟨A_3, c_4, rfl, rfl⟩
      refine wr_rows (R1 := [⟨5, 1, A_3, (n1 + b.length), c_4, ints .u8 (acc ++ b), false⟩]) rfl ?_
      refine wr_as (v := .slice A_3 (n1 + b.length) c_4) rfl ?_
      refine wr_y rfl (y_assign rfl) ?_
      refine wr_nil ?_
      refine w_seq ?_
      refine w_reg ?_
      refine wr_y rfl (y_move rfl) ?_
      refine wr_a rfl (a_callF en37 rfl (Ct.fresh (fun w hw => sbytes_ct ((rdr 0 rfl) w hw) (by rw [hacc]; exact (rep_bytes bh_a i).append bh_b) (by rw [List.length_append]; omega)))) ?_
      rintro _ _ ⟨_, rfl, a1, A_5, c_6, rfl, hp_a1, hs_a1, rfl⟩
      refine wr_y rfl (y_move rfl) ?_
      refine wr_y rfl (y_extract rfl rfl) ?_
      refine wr_y rfl (y_extract rfl rfl) ?_
      refine wr_y rfl (y_assign rfl) ?_
      refine wr_y rfl (y_assign rfl) ?_
      refine wr_nil ?_
      refine w_seq ?_
      refine w_reg ?_
      refine wr_y rfl (y_move rfl) ?_
      refine wr_y rfl (Yl.t (y_eq rfl rfl) (rfl)) ?_
      refine wr_y rfl (y_move rfl) ?_
      refine wr_yes rfl rfl ?_
      refine wr_y rfl (y_move rfl) ?_
      refine wr_yes rfl rfl ?_
      refine wr_y rfl (y_move rfl) ?_
      refine wr_yes rfl rfl ?_
      refine wr_a rfl (a_callF en24 rfl (Ct.fresh (fun w hw => bytes13_ct ((rdr 1 rfl) w hw) (by rw [hacc]; exact (rep_bytes bh_a i).append bh_b) (by rw [List.length_append]; omega)))) ?_
      rintro _ _ ⟨_, rfl, b1, A_8, c_9, rfl, hp_b1, hs_b1, rfl⟩
      refine wr_yes rfl rfl ?_
      refine wr_a rfl (a_callF en21 rfl (Ct.quiet (fun w hw => ints4_ct ((rdr 1 rfl) w hw) ((rdr 0 rfl) w hw) (by rw [hp_a1.length_eq, iota_len, List.length_append]; omega)))) ?_
      rintro _ _ ⟨rfl, rfl⟩
      refine wr_setT 49 rfl (one_orderE hp_a1 hp_b1 hs_a1 hs_b1) ?_
      refine wr_y rfl (y_pickT rfl rfl) ?_
      refine wr_y rfl (y_move rfl) ?_
      refine wr_yes rfl rfl ?_
      refine wr_a rfl (a_callF en36 rfl (Ct.quiet (fun w hw => known13_ct))) ?_
      rintro _ _ ⟨rfl, rfl⟩
      refine wr_y rfl (y_pickT rfl rfl) ?_
      refine wr_y rfl (y_assign rfl) ?_
      refine wr_nil ?_
      refine w_retR (R1 := []) (fun _ h => h.sel [] (by decide) rfl) ?_
      refine ⟨_, rfl, ?_⟩
      rfl

/-! whorl/whorllaw13.SaisLong -/
set_option maxRecDepth 100000 in
theorem sLongA_ct {w : World} {n : Int} (hA : n ≤ 100000) :
    Ct Try.prog 17 #[.int .i64 n] w.heap.size w [] (fun v R' => v = .bool true) := by
  refine fn1 Try.func17 rfl rfl rfl ?_
  refine w_seq ?_
  refine w_reg ?_
  refine wr_y rfl (y_assign rfl) ?_
  refine wr_nil ?_
  refine w_seq ?_
  refine w_seq ?_
  refine w_reg ?_
  refine wr_y rfl (y_move rfl) ?_
  refine wr_y rfl (y_lt rfl rfl) ?_
  refine wr_y rfl (y_move rfl) ?_
  refine wr_mid 3 [(0, .int .i64 n), (14, .bool (decide ((n < 0) ∨ (100002 < n))))] [] ?_ ?_
  ·
    refine wr_case 11 rfl (fun hc1 => ?_) (fun hc1 => ?_)
    ·
      refine wr_no rfl rfl rfl rfl ?_
      refine wr_no rfl rfl rfl rfl ?_
      refine wr_y rfl (y_pickT rfl rfl) ?_
      refine wr_nil ?_
      exact ⟨(Sub.cons rfl (Sub.to rfl (mb_t (by first | omega | exact ⟨fun h => ⟨(by assumption), h⟩, fun h => h.2⟩ | simp [*])) Sub.nil)), fun _ h => h⟩
    ·
      refine wr_yes rfl rfl ?_
      refine wr_y rfl (y_move rfl) ?_
      refine wr_yes rfl rfl ?_
      refine wr_y rfl (y_gt rfl rfl) ?_
      refine wr_y rfl (y_pickF rfl rfl) ?_
      refine wr_nil ?_
      exact ⟨(Sub.cons rfl (Sub.to rfl (mb (by first | omega | exact ⟨fun h => ⟨(by assumption), h⟩, fun h => h.2⟩ | simp [*])) Sub.nil)), fun _ h => h⟩
  refine wr_y rfl (y_move rfl) ?_
  refine wr_mid 7 [(0, .int .i64 n), (22, .bool (decide (((n < 0) ∨ (100002 < n)) ∨ ((300 < n) ∧ (n ≤ 100000)))))] [] ?_ ?_
  ·
    refine wr_case 15 rfl (fun hc2 => ?_) (fun hc2 => ?_)
    ·
      refine wr_no rfl rfl rfl rfl ?_
      refine wr_no rfl rfl rfl rfl ?_
      refine wr_no rfl rfl rfl rfl ?_
      refine wr_nou rfl rfl rfl ?_
      refine wr_nou rfl rfl rfl ?_
      refine wr_no rfl rfl rfl rfl ?_
      refine wr_y rfl (y_pickT rfl rfl) ?_
      refine wr_nil ?_
      exact ⟨(Sub.cons rfl (Sub.to rfl (mb_t (by first | omega | exact ⟨fun h => ⟨(by assumption), h⟩, fun h => h.2⟩ | simp [*])) Sub.nil)), fun _ h => h⟩
    ·
      refine wr_yes rfl rfl ?_
      refine wr_y rfl (y_move rfl) ?_
      refine wr_yes rfl rfl ?_
      refine wr_y rfl (y_gt rfl rfl) ?_
      refine wr_yes rfl rfl ?_
      refine wr_y rfl (y_move rfl) ?_
      refine wr_mid 3 [(0, .int .i64 n), (15, .bool false), (21, .bool (decide ((300 < n) ∧ (n ≤ 100000))))] [] ?_ ?_
      ·
        refine wr_case 18 rfl (fun hc3 => ?_) (fun hc3 => ?_)
        ·
          refine wr_yes rfl rfl ?_
          refine wr_y rfl (y_move rfl) ?_
          refine wr_yes rfl rfl ?_
          refine wr_y rfl (y_le rfl rfl) ?_
          refine wr_yes rfl rfl ?_
          refine wr_y rfl (y_pickT rfl rfl) ?_
          refine wr_nil ?_
          exact ⟨(Sub.cons rfl (Sub.cons rfl (Sub.to rfl (mb (by first | omega | exact ⟨fun h => ⟨(by assumption), h⟩, fun h => h.2⟩ | simp [*])) Sub.nil))), fun _ h => h⟩
        ·
          refine wr_no rfl rfl rfl rfl ?_
          refine wr_no rfl rfl rfl rfl ?_
          refine wr_yes rfl rfl ?_
          refine wr_y rfl (y_pickF rfl rfl) ?_
          refine wr_nil ?_
          exact ⟨(Sub.cons rfl (Sub.cons rfl (Sub.to rfl (mb_f (by first | omega | exact ⟨fun h => ⟨(by assumption), h⟩, fun h => h.2⟩ | simp [*])) Sub.nil))), fun _ h => h⟩
      refine wr_y rfl (y_pickF rfl rfl) ?_
      refine wr_nil ?_
      exact ⟨(Sub.cons rfl (Sub.to rfl (mb (by first | omega | exact ⟨fun h => ⟨(by assumption), h⟩, fun h => h.2⟩ | simp [*])) Sub.nil)), fun _ h => h⟩
  refine wr_nil ?_
  refine w_if rfl (fun hc4 => ?_) (fun hc4 => ?_)
  ·
    refine w_seq ?_
    refine w_reg ?_
    refine wr_y rfl (y_assign rfl) ?_
    refine wr_nil ?_
    refine w_ret ?_
    refine ⟨_, rfl, ?_⟩
    rfl
  ·
    refine w_skip ?_
    refine w_seq ?_
    refine w_reg ?_
    refine wr_y rfl (y_move rfl) ?_
    refine wr_a rfl (a_makeN Try.underlying31 zb5 rfl rfl (by omega) (by omega) (by omega)) ?_
    rintro _ _ ⟨g_2, rfl, rfl⟩
    refine wr_rows (R1 := [⟨5, 1, (some ⟨g_2, 0, none⟩), ((n).toNat), ((n).toNat), ints .u8 (List.replicate ((n).toNat) (0 : Int)), false⟩]) rfl ?_
    refine wr_as (v := .slice (some ⟨g_2, 0, none⟩) ((n).toNat) ((n).toNat)) rfl ?_
    refine wr_y rfl (y_assign rfl) ?_
    refine wr_nil ?_
    refine w_seq ?_
    refine w_reg ?_
    refine wr_y rfl (y_move rfl) ?_
    refine wr_a rfl (a_callF en37 rfl (Ct.fresh (fun w hw => sbytes_ct ((rdr 0 rfl) w hw) (by intro x hx; have := List.eq_of_mem_replicate hx; omega) (by rw [List.length_replicate]; omega)))) ?_
    rintro _ _ ⟨_, rfl, a1, A_3, c_4, rfl, hp_a1, hs_a1, rfl⟩
    refine wr_y rfl (y_move rfl) ?_
    refine wr_y rfl (y_extract rfl rfl) ?_
    refine wr_y rfl (y_extract rfl rfl) ?_
    refine wr_y rfl (y_assign rfl) ?_
    refine wr_y rfl (y_assign rfl) ?_
    refine wr_nil ?_
    refine w_seq ?_
    refine w_seq ?_
    refine w_reg ?_
    refine wr_y rfl (y_move rfl) ?_
    refine wr_y rfl (Yl.f (y_gt rfl rfl) (by omega)) ?_
    refine wr_nil ?_
    refine w_false rfl ?_
    refine w_skip ?_
    refine w_seq ?_
    refine w_seq ?_
    refine w_reg ?_
    refine wr_y rfl (y_move rfl) ?_
    refine wr_y rfl (Yl.f (y_ne rfl rfl) (by omega)) ?_
    refine wr_y rfl (y_move rfl) ?_
    refine wr_yes rfl rfl ?_
    refine wr_y rfl (y_move rfl) ?_
    refine wr_yes rfl rfl ?_
    refine wr_y rfl (y_len Try.underlying22 rfl) ?_
    refine wr_yes rfl rfl ?_
    refine wr_y rfl (y_move rfl) ?_
    refine wr_yes rfl rfl ?_
    refine wr_y rfl (Yl.f (y_ne rfl rfl) (by rw [List.length_replicate]; omega)) ?_
    refine wr_y rfl (y_pickF rfl rfl) ?_
    refine wr_nil ?_
    refine w_false rfl ?_
    refine w_skip ?_
    refine w_seq ?_
    refine w_seq ?_
    refine w_reg ?_
    refine wr_y rfl (y_assign rfl) ?_
    refine wr_nil ?_
    refine w_block ?_
    refine w_loop1 (fun (i : Int) => [(0, .int .i64 n), (4, .slice A_3 ((List.replicate ((n).toNat) (0 : Int)).length) c_4), (8, .int .i64 i)]) (fun (i : Int) => [⟨3, 1, A_3, (List.replicate ((n).toNat) (0 : Int)).length, c_4, ints .i64 a1, false⟩, ⟨5, 1, (some ⟨g_2, 0, none⟩), ((n).toNat), ((n).toNat), ints .u8 (List.replicate ((n).toNat) (0 : Int)), false⟩]) (fun (i : Int) => (0 ≤ i) ∧ (i ≤ n)) (fun (i : Int) => (n - i).toNat) ?_ ?_
    ·
      exact ⟨0, ⟨(by omega), (by omega)⟩, (Sub.cons rfl (Sub.cons rfl (Sub.cons rfl Sub.nil))), fun _ h => h⟩
    intro i ⟨hi0, hi1⟩
    have hz := zero_order n.toNat
    have ho := one_orderE hp_a1 hz.1 hs_a1 hz.2
    have hl_a1 : a1.length = n.toNat := by rw [hp_a1.length_eq, iota_len, List.length_replicate]
    refine w_seq ?_
    refine w_seq ?_
    refine w_reg ?_
    refine wr_y rfl (y_move rfl) ?_
    refine wr_y rfl (y_move rfl) ?_
    refine wr_y rfl (y_lt rfl rfl) ?_
    refine wr_nil ?_
    refine w_if rfl (fun hc5 => ?_) (fun hc5 => ?_)
    ·
      refine w_skip ?_
      refine w_seq ?_
      refine w_block ?_
      refine w_seq ?_
      refine w_reg ?_
      refine wr_y rfl (y_move rfl) ?_
      refine wr_y rfl (y_move rfl) ?_
      refine wr_y rfl (y_index1 Try.underlying22 sz3 rfl rfl (rdr 0 rfl) (by first | omega | (rw [List.length_replicate]; omega)) (by first | omega | (rw [List.length_replicate]; omega))) ?_
      refine wr_y rfl (y_ldI Try.underlying3 rfl rfl (rdr 0 rfl) (by first | omega | (rw [List.length_replicate]; omega)) (by first | omega | (rw [List.length_replicate]; omega))) ?_
      refine wr_y rfl (y_move rfl) ?_
      refine wr_y rfl (y_subI rfl rfl (by omega)) ?_
      refine wr_y rfl (y_move rfl) ?_
      refine wr_y rfl (y_subI rfl rfl (by omega)) ?_
      refine wr_y rfl (Yl.f (y_ne rfl rfl) (by rw [ho, rd_range (by omega) (by omega)]; omega)) ?_
      refine wr_nil ?_
      refine w_false rfl ?_
      refine w_skip ?_
      refine w_reg ?_
      refine wr_y rfl (y_move rfl) ?_
      refine wr_y rfl (y_addI rfl rfl (by omega)) ?_
      refine wr_y rfl (y_assign rfl) ?_
      refine wr_nil ?_
      exact ⟨i + 1, ⟨(by omega), (by omega)⟩, (by omega), (Sub.cons rfl (Sub.cons rfl (Sub.cons rfl Sub.nil))), fun _ h => h⟩
    ·
      refine w_exit ?_
      refine w_seq ?_
      refine w_reg ?_
      refine wr_a rfl (a_callF en36 rfl (Ct.quiet (fun w hw => known13_ct))) ?_
      rintro _ _ ⟨rfl, rfl⟩
      refine wr_y rfl (y_assign rfl) ?_
      refine wr_nil ?_
      refine w_retR (R1 := []) (fun _ h => h.sel [] (by decide) rfl) ?_
      refine ⟨_, rfl, ?_⟩
      rfl

/-! whorl/whorllaw13.SaisLong -/
set_option maxRecDepth 100000 in
theorem sLongB_ct {w : World} {n : Int} (hB : ¬ n ≤ 100000) :
    Ct Try.prog 17 #[.int .i64 n] w.heap.size w [] (fun v R' => v = .bool true) := by
  refine fn1 Try.func17 rfl rfl rfl ?_
  refine w_seq ?_
  refine w_reg ?_
  refine wr_y rfl (y_assign rfl) ?_
  refine wr_nil ?_
  refine w_seq ?_
  refine w_seq ?_
  refine w_reg ?_
  refine wr_y rfl (y_move rfl) ?_
  refine wr_y rfl (y_lt rfl rfl) ?_
  refine wr_y rfl (y_move rfl) ?_
  refine wr_mid 3 [(0, .int .i64 n), (14, .bool (decide ((n < 0) ∨ (100002 < n))))] [] ?_ ?_
  ·
    refine wr_case 11 rfl (fun hc1 => ?_) (fun hc1 => ?_)
    ·
      refine wr_no rfl rfl rfl rfl ?_
      refine wr_no rfl rfl rfl rfl ?_
      refine wr_y rfl (y_pickT rfl rfl) ?_
      refine wr_nil ?_
      exact ⟨(Sub.cons rfl (Sub.to rfl (mb_t (by first | omega | exact ⟨fun h => ⟨(by assumption), h⟩, fun h => h.2⟩ | simp [*])) Sub.nil)), fun _ h => h⟩
    ·
      refine wr_yes rfl rfl ?_
      refine wr_y rfl (y_move rfl) ?_
      refine wr_yes rfl rfl ?_
      refine wr_y rfl (y_gt rfl rfl) ?_
      refine wr_y rfl (y_pickF rfl rfl) ?_
      refine wr_nil ?_
      exact ⟨(Sub.cons rfl (Sub.to rfl (mb (by first | omega | exact ⟨fun h => ⟨(by assumption), h⟩, fun h => h.2⟩ | simp [*])) Sub.nil)), fun _ h => h⟩
  refine wr_y rfl (y_move rfl) ?_
  refine wr_mid 7 [(0, .int .i64 n), (22, .bool (decide (((n < 0) ∨ (100002 < n)) ∨ ((300 < n) ∧ (n ≤ 100000)))))] [] ?_ ?_
  ·
    refine wr_case 15 rfl (fun hc2 => ?_) (fun hc2 => ?_)
    ·
      refine wr_no rfl rfl rfl rfl ?_
      refine wr_no rfl rfl rfl rfl ?_
      refine wr_no rfl rfl rfl rfl ?_
      refine wr_nou rfl rfl rfl ?_
      refine wr_nou rfl rfl rfl ?_
      refine wr_no rfl rfl rfl rfl ?_
      refine wr_y rfl (y_pickT rfl rfl) ?_
      refine wr_nil ?_
      exact ⟨(Sub.cons rfl (Sub.to rfl (mb_t (by first | omega | exact ⟨fun h => ⟨(by assumption), h⟩, fun h => h.2⟩ | simp [*])) Sub.nil)), fun _ h => h⟩
    ·
      refine wr_yes rfl rfl ?_
      refine wr_y rfl (y_move rfl) ?_
      refine wr_yes rfl rfl ?_
      refine wr_y rfl (y_gt rfl rfl) ?_
      refine wr_yes rfl rfl ?_
      refine wr_y rfl (y_move rfl) ?_
      refine wr_mid 3 [(0, .int .i64 n), (15, .bool false), (21, .bool (decide ((300 < n) ∧ (n ≤ 100000))))] [] ?_ ?_
      ·
        refine wr_case 18 rfl (fun hc3 => ?_) (fun hc3 => ?_)
        ·
          refine wr_yes rfl rfl ?_
          refine wr_y rfl (y_move rfl) ?_
          refine wr_yes rfl rfl ?_
          refine wr_y rfl (y_le rfl rfl) ?_
          refine wr_yes rfl rfl ?_
          refine wr_y rfl (y_pickT rfl rfl) ?_
          refine wr_nil ?_
          exact ⟨(Sub.cons rfl (Sub.cons rfl (Sub.to rfl (mb (by first | omega | exact ⟨fun h => ⟨(by assumption), h⟩, fun h => h.2⟩ | simp [*])) Sub.nil))), fun _ h => h⟩
        ·
          refine wr_no rfl rfl rfl rfl ?_
          refine wr_no rfl rfl rfl rfl ?_
          refine wr_yes rfl rfl ?_
          refine wr_y rfl (y_pickF rfl rfl) ?_
          refine wr_nil ?_
          exact ⟨(Sub.cons rfl (Sub.cons rfl (Sub.to rfl (mb_f (by first | omega | exact ⟨fun h => ⟨(by assumption), h⟩, fun h => h.2⟩ | simp [*])) Sub.nil))), fun _ h => h⟩
      refine wr_y rfl (y_pickF rfl rfl) ?_
      refine wr_nil ?_
      exact ⟨(Sub.cons rfl (Sub.to rfl (mb (by first | omega | exact ⟨fun h => ⟨(by assumption), h⟩, fun h => h.2⟩ | simp [*])) Sub.nil)), fun _ h => h⟩
  refine wr_nil ?_
  refine w_if rfl (fun hc4 => ?_) (fun hc4 => ?_)
  ·
    refine w_seq ?_
    refine w_reg ?_
    refine wr_y rfl (y_assign rfl) ?_
    refine wr_nil ?_
    refine w_ret ?_
    refine ⟨_, rfl, ?_⟩
    rfl
  ·
    refine w_skip ?_
    refine w_seq ?_
    refine w_reg ?_
    refine wr_y rfl (y_move rfl) ?_
    refine wr_a rfl (a_makeN Try.underlying31 zb5 rfl rfl (by omega) (by omega) (by omega)) ?_
    rintro _ _ ⟨g_2, rfl, rfl⟩
    refine wr_rows (R1 := [⟨5, 1, (some ⟨g_2, 0, none⟩), ((n).toNat), ((n).toNat), ints .u8 (List.replicate ((n).toNat) (0 : Int)), false⟩]) rfl ?_
    refine wr_as (v := .slice (some ⟨g_2, 0, none⟩) ((n).toNat) ((n).toNat)) rfl ?_
    refine wr_y rfl (y_assign rfl) ?_
    refine wr_nil ?_
    refine w_seq ?_
    refine w_reg ?_
    refine wr_y rfl (y_move rfl) ?_
    refine wr_a rfl (a_callF en37 rfl (Ct.quiet (fun w hw => sbytesLong_ct ((rdr 0 rfl) w hw) (by rw [List.length_replicate]; omega)))) ?_
    rintro _ _ ⟨rfl, rfl⟩
    refine wr_y rfl (y_move rfl) ?_
    refine wr_y rfl (y_extract rfl rfl) ?_
    refine wr_y rfl (y_extract rfl rfl) ?_
    refine wr_y rfl (y_assign rfl) ?_
    refine wr_y rfl (y_assign rfl) ?_
    refine wr_nil ?_
    refine w_seq ?_
    refine w_seq ?_
    refine w_reg ?_
    refine wr_y rfl (y_move rfl) ?_
    refine wr_y rfl (Yl.t (y_gt rfl rfl) (by omega)) ?_
    refine wr_nil ?_
    refine w_true rfl ?_
    refine w_seq ?_
    refine w_reg ?_
    refine wr_y rfl (y_move rfl) ?_
    refine wr_a rfl (a_makeN Try.underlying22 zb3 rfl rfl (by omega) (by omega) (by omega)) ?_
    rintro _ _ ⟨g_4, rfl, rfl⟩
    refine wr_rows (R1 := [⟨3, 1, (some ⟨g_4, 0, none⟩), ((n).toNat), ((n).toNat), ints .i64 (List.replicate ((n).toNat) (0 : Int)), false⟩, ⟨5, 1, (some ⟨g_2, 0, none⟩), ((n).toNat), ((n).toNat), ints .u8 (List.replicate ((n).toNat) (0 : Int)), false⟩]) rfl ?_
    refine wr_as (v := .slice (some ⟨g_4, 0, none⟩) ((n).toNat) ((n).toNat)) rfl ?_
    refine wr_a rfl (a_callF en35 rfl (Ct.quiet (fun w hw => sintsLong_ct ((rdr 0 rfl) w hw) (by rw [List.length_replicate]; omega)))) ?_
    rintro _ _ ⟨rfl, rfl⟩
    refine wr_y rfl (y_move rfl) ?_
    refine wr_y rfl (y_extract rfl rfl) ?_
    refine wr_y rfl (y_extract rfl rfl) ?_
    refine wr_y rfl (y_assign rfl) ?_
    refine wr_y rfl (y_assign rfl) ?_
    refine wr_nil ?_
    refine w_seq ?_
    refine w_reg ?_
    refine wr_y rfl (y_move rfl) ?_
    refine wr_y rfl (Yl.t (y_eq rfl rfl) (rfl)) ?_
    refine wr_y rfl (y_move rfl) ?_
    refine wr_yes rfl rfl ?_
    refine wr_y rfl (y_move rfl) ?_
    refine wr_yes rfl rfl ?_
    refine wr_y rfl (y_len Try.underlying22 rfl) ?_
    refine wr_yes rfl rfl ?_
    refine wr_y rfl (Yl.t (y_eq rfl rfl) (rfl)) ?_
    refine wr_y rfl (y_pickT rfl rfl) ?_
    refine wr_y rfl (y_move rfl) ?_
    refine wr_yes rfl rfl ?_
    refine wr_y rfl (y_move rfl) ?_
    refine wr_yes rfl rfl ?_
    refine wr_y rfl (Yl.t (y_eq rfl rfl) (rfl)) ?_
    refine wr_y rfl (y_pickT rfl rfl) ?_
    refine wr_y rfl (y_move rfl) ?_
    refine wr_yes rfl rfl ?_
    refine wr_a rfl (a_callF en36 rfl (Ct.quiet (fun w hw => known13_ct))) ?_
    rintro _ _ ⟨rfl, rfl⟩
    refine wr_y rfl (y_pickT rfl rfl) ?_
    refine wr_y rfl (y_assign rfl) ?_
    refine wr_nil ?_
    refine w_retR (R1 := []) (fun _ h => h.sel [] (by decide) rfl) ?_
    refine ⟨_, rfl, ?_⟩
    rfl

theorem saisLong_ct {w : World} {n : Int} :
    Ct Try.prog 17 #[.int .i64 n] w.heap.size w [] (fun v R' => v = .bool true) := by
  by_cases hcase : n ≤ 100000
  · exact sLongA_ct  hcase
  · exact sLongB_ct  hcase
theorem spread_eq {s a b : List Int} {f : Int → Int} (hf : ∀ x y, x < y ↔ f x < f y) (ha : a.Perm (iota s.length)) (sa : a.Pairwise (ordE s)) (hb : b.Perm (iota (s.map f).length)) (sb : b.Pairwise (ordE (s.map f))) : a = b := by
  rw [List.length_map] at hb
  refine one_orderE ha hb sa (sb.imp fun {x y} h => ?_)
  rw [← ordE_cmp, ← List.map_drop, ← List.map_drop, cmpL_map hf] at h
  exact ordE_cmp.1 h
/-! whorl/whorllaw13.SaisSpread -/
set_option maxRecDepth 100000 in
set_option maxHeartbeats 400000 in
theorem saisSpread_ct {w : World} {A_s : Option Addr} {n_s c_s : Nat} {s : List Int} {q : Int} {m : Int} (h_s : Rd w A_s n_s c_s 1 (ints .i64 s)) :
    Ct Try.prog 18 #[.slice A_s n_s c_s, .int .i64 q, .int .i64 m] w.heap.size w [] (fun v R' => v = .bool true) := by
  obtain rfl := h_s.lenI
  refine fn1 Try.func18 rfl rfl rfl ?_
  have m_s := h_s.max
  refine w_seq ?_
  refine w_reg ?_
  refine wr_y rfl (y_assign rfl) ?_
  refine wr_nil ?_
  refine w_seq ?_
  refine w_seq ?_
  refine w_reg ?_
  refine wr_y rfl (y_move rfl) ?_
  refine wr_y rfl (y_len Try.underlying22 rfl) ?_
  refine wr_y rfl (y_gt rfl rfl) ?_
  refine wr_y rfl (y_move rfl) ?_
  refine wr_mid 3 [(0, .slice A_s s.length c_s), (1, .int .i64 q), (2, .int .i64 m), (19, .bool (decide ((150 < ((s.length : Nat) : Int)) ∨ (q < 1))))] [] ?_ ?_
  ·
    refine wr_case 16 rfl (fun hc1 => ?_) (fun hc1 => ?_)
    ·
      refine wr_no rfl rfl rfl rfl ?_
      refine wr_no rfl rfl rfl rfl ?_
      refine wr_y rfl (y_pickT rfl rfl) ?_
      refine wr_nil ?_
      exact ⟨(Sub.cons rfl (Sub.cons rfl (Sub.cons rfl (Sub.to rfl (mb_t (by first | omega | exact ⟨fun h => ⟨(by assumption), h⟩, fun h => h.2⟩ | simp [*])) Sub.nil)))), fun _ h => h⟩
    ·
      refine wr_yes rfl rfl ?_
      refine wr_y rfl (y_move rfl) ?_
      refine wr_yes rfl rfl ?_
      refine wr_y rfl (y_lt rfl rfl) ?_
      refine wr_y rfl (y_pickF rfl rfl) ?_
      refine wr_nil ?_
      exact ⟨(Sub.cons rfl (Sub.cons rfl (Sub.cons rfl (Sub.to rfl (mb (by first | omega | exact ⟨fun h => ⟨(by assumption), h⟩, fun h => h.2⟩ | simp [*])) Sub.nil)))), fun _ h => h⟩
  refine wr_y rfl (y_move rfl) ?_
  refine wr_mid 3 [(0, .slice A_s s.length c_s), (1, .int .i64 q), (2, .int .i64 m), (23, .bool (decide (((150 < ((s.length : Nat) : Int)) ∨ (q < 1)) ∨ (9 < q))))] [] ?_ ?_
  ·
    refine wr_case 20 rfl (fun hc2 => ?_) (fun hc2 => ?_)
    ·
      refine wr_no rfl rfl rfl rfl ?_
      refine wr_no rfl rfl rfl rfl ?_
      refine wr_y rfl (y_pickT rfl rfl) ?_
      refine wr_nil ?_
      exact ⟨(Sub.cons rfl (Sub.cons rfl (Sub.cons rfl (Sub.to rfl (mb_t (by first | omega | exact ⟨fun h => ⟨(by assumption), h⟩, fun h => h.2⟩ | simp [*])) Sub.nil)))), fun _ h => h⟩
    ·
      refine wr_yes rfl rfl ?_
      refine wr_y rfl (y_move rfl) ?_
      refine wr_yes rfl rfl ?_
      refine wr_y rfl (y_gt rfl rfl) ?_
      refine wr_y rfl (y_pickF rfl rfl) ?_
      refine wr_nil ?_
      exact ⟨(Sub.cons rfl (Sub.cons rfl (Sub.cons rfl (Sub.to rfl (mb (by first | omega | exact ⟨fun h => ⟨(by assumption), h⟩, fun h => h.2⟩ | simp [*])) Sub.nil)))), fun _ h => h⟩
  refine wr_y rfl (y_move rfl) ?_
  refine wr_mid 3 [(0, .slice A_s s.length c_s), (1, .int .i64 q), (2, .int .i64 m), (27, .bool (decide ((((150 < ((s.length : Nat) : Int)) ∨ (q < 1)) ∨ (9 < q)) ∨ (m < 0))))] [] ?_ ?_
  ·
    refine wr_case 24 rfl (fun hc3 => ?_) (fun hc3 => ?_)
    ·
      refine wr_no rfl rfl rfl rfl ?_
      refine wr_no rfl rfl rfl rfl ?_
      refine wr_y rfl (y_pickT rfl rfl) ?_
      refine wr_nil ?_
      exact ⟨(Sub.cons rfl (Sub.cons rfl (Sub.cons rfl (Sub.to rfl (mb_t (by first | omega | exact ⟨fun h => ⟨(by assumption), h⟩, fun h => h.2⟩ | simp [*])) Sub.nil)))), fun _ h => h⟩
    ·
      refine wr_yes rfl rfl ?_
      refine wr_y rfl (y_move rfl) ?_
      refine wr_yes rfl rfl ?_
      refine wr_y rfl (y_lt rfl rfl) ?_
      refine wr_y rfl (y_pickF rfl rfl) ?_
      refine wr_nil ?_
      exact ⟨(Sub.cons rfl (Sub.cons rfl (Sub.cons rfl (Sub.to rfl (mb (by first | omega | exact ⟨fun h => ⟨(by assumption), h⟩, fun h => h.2⟩ | simp [*])) Sub.nil)))), fun _ h => h⟩
  refine wr_y rfl (y_move rfl) ?_
  refine wr_mid 3 [(0, .slice A_s s.length c_s), (1, .int .i64 q), (2, .int .i64 m), (31, .bool (decide (((((150 < ((s.length : Nat) : Int)) ∨ (q < 1)) ∨ (9 < q)) ∨ (m < 0)) ∨ (9 < m))))] [] ?_ ?_
  ·
    refine wr_case 28 rfl (fun hc4 => ?_) (fun hc4 => ?_)
    ·
      refine wr_no rfl rfl rfl rfl ?_
      refine wr_no rfl rfl rfl rfl ?_
      refine wr_y rfl (y_pickT rfl rfl) ?_
      refine wr_nil ?_
      exact ⟨(Sub.cons rfl (Sub.cons rfl (Sub.cons rfl (Sub.to rfl (mb_t (by first | omega | exact ⟨fun h => ⟨(by assumption), h⟩, fun h => h.2⟩ | simp [*])) Sub.nil)))), fun _ h => h⟩
    ·
      refine wr_yes rfl rfl ?_
      refine wr_y rfl (y_move rfl) ?_
      refine wr_yes rfl rfl ?_
      refine wr_y rfl (y_gt rfl rfl) ?_
      refine wr_y rfl (y_pickF rfl rfl) ?_
      refine wr_nil ?_
      exact ⟨(Sub.cons rfl (Sub.cons rfl (Sub.cons rfl (Sub.to rfl (mb (by first | omega | exact ⟨fun h => ⟨(by assumption), h⟩, fun h => h.2⟩ | simp [*])) Sub.nil)))), fun _ h => h⟩
  refine wr_nil ?_
  refine w_if rfl (fun hc5 => ?_) (fun hc5 => ?_)
  ·
    refine w_seq ?_
    refine w_reg ?_
    refine wr_y rfl (y_assign rfl) ?_
    refine wr_nil ?_
    refine w_ret ?_
    refine ⟨_, rfl, ?_⟩
    rfl
  ·
    refine w_skip ?_
    refine w_seq ?_
    refine w_reg ?_
    refine wr_sub (R1 := [⟨3, 1, none, 0, 0, ints .i64 ([]), false⟩]) (Sub.refl _) (fun _ h => h.nil 3 1) ?_
    refine wr_y rfl (y_assign rfl) ?_
    refine wr_nil ?_
    refine w_seq ?_
    refine w_seq ?_
    refine w_reg ?_
    refine wr_y rfl (y_assign rfl) ?_
    refine wr_nil ?_
    refine w_block ?_
    refine w_loop5 (fun (A1 : Option Addr) (n1 : Nat) (c1 : Nat) (acc : List Int) (i : Int) => [(0, .slice A_s s.length c_s), (1, .int .i64 q), (2, .int .i64 m), (7, .slice A1 n1 c1), (8, .int .i64 i)]) (fun (A1 : Option Addr) (n1 : Nat) (c1 : Nat) (acc : List Int) (i : Int) => [⟨3, 1, A1, n1, c1, ints .i64 acc, false⟩]) (fun (A1 : Option Addr) (n1 : Nat) (c1 : Nat) (acc : List Int) (i : Int) => (n1 = acc.length) ∧ (0 ≤ i) ∧ (i ≤ s.length) ∧ (acc = (s.take i.toNat).map (fun x => x * q + m)) ∧ (∀ x ∈ s.take i.toNat, 0 ≤ x ∧ x ≤ 200)) (fun (A1 : Option Addr) (n1 : Nat) (c1 : Nat) (acc : List Int) (i : Int) => (s.length - i).toNat) ?_ ?_
    ·
      exact ⟨none, 0, 0, [], 0, ⟨(rfl), (by omega), (by omega), (rfl), (fun x hx => by cases hx)⟩, (Sub.cons rfl (Sub.cons rfl (Sub.cons rfl (Sub.cons rfl (Sub.cons rfl Sub.nil))))), fun _ h => h⟩
    intro A1 n1 c1 acc i ⟨hn1, hi0, hi1, hacc, hall⟩
    have hal := congrArg List.length hacc
    rw [List.length_map, List.length_take] at hal
    refine w_seq ?_
    refine w_seq ?_
    refine w_reg ?_
    refine wr_y rfl (y_move rfl) ?_
    refine wr_y rfl (y_move rfl) ?_
    refine wr_y rfl (y_len Try.underlying22 rfl) ?_
    refine wr_y rfl (y_lt rfl rfl) ?_
    refine wr_nil ?_
    refine w_if rfl (fun hc6 => ?_) (fun hc6 => ?_)
    ·
      refine w_skip ?_
      refine w_seq ?_
      refine w_block ?_
      refine w_seq ?_
      refine w_seq ?_
      refine w_reg ?_
      refine wr_y rfl (y_move rfl) ?_
      refine wr_y rfl (y_move rfl) ?_
      refine wr_y rfl (y_index1 Try.underlying22 sz3 rfl rfl (h_s.c _) (by omega) (by omega)) ?_
      refine wr_y rfl (y_ldI Try.underlying3 rfl rfl (h_s.c _) (by omega) (by omega)) ?_
      refine wr_y rfl (y_lt rfl rfl) ?_
      refine wr_y rfl (y_move rfl) ?_
      refine wr_mid 6 [(0, .slice A_s s.length c_s), (1, .int .i64 q), (2, .int .i64 m), (7, .slice A1 n1 c1), (8, .int .i64 i), (49, .bool (decide (((rd s i) < 0) ∨ (200 < (rd s i)))))] [⟨3, 1, A1, n1, c1, ints .i64 acc, false⟩] ?_ ?_
      ·
        refine wr_case 43 rfl (fun hc7 => ?_) (fun hc7 => ?_)
        ·
          refine wr_no rfl rfl rfl rfl ?_
          refine wr_no rfl rfl rfl rfl ?_
          refine wr_no rfl rfl rfl rfl ?_
          refine wr_no rfl rfl rfl rfl ?_
          refine wr_no rfl rfl rfl rfl ?_
          refine wr_y rfl (y_pickT rfl rfl) ?_
          refine wr_nil ?_
          exact ⟨(Sub.cons rfl (Sub.cons rfl (Sub.cons rfl (Sub.cons rfl (Sub.cons rfl (Sub.to rfl (mb_t (by first | omega | exact ⟨fun h => ⟨(by assumption), h⟩, fun h => h.2⟩ | simp [*])) Sub.nil)))))), fun _ h => h⟩
        ·
          refine wr_yes rfl rfl ?_
          refine wr_y rfl (y_move rfl) ?_
          refine wr_yes rfl rfl ?_
          refine wr_y rfl (y_move rfl) ?_
          refine wr_yes rfl rfl ?_
          refine wr_y rfl (y_index1 Try.underlying22 sz3 rfl rfl (h_s.c _) (by omega) (by omega)) ?_
          refine wr_yes rfl rfl ?_
          refine wr_y rfl (y_ldI Try.underlying3 rfl rfl (h_s.c _) (by omega) (by omega)) ?_
          refine wr_yes rfl rfl ?_
          refine wr_y rfl (y_gt rfl rfl) ?_
          refine wr_y rfl (y_pickF rfl rfl) ?_
          refine wr_nil ?_
          exact ⟨(Sub.cons rfl (Sub.cons rfl (Sub.cons rfl (Sub.cons rfl (Sub.cons rfl (Sub.to rfl (mb (by first | omega | exact ⟨fun h => ⟨(by assumption), h⟩, fun h => h.2⟩ | simp [*])) Sub.nil)))))), fun _ h => h⟩
      refine wr_nil ?_
      refine w_if rfl (fun hc8 => ?_) (fun hc8 => ?_)
      ·
        refine w_seq ?_
        refine w_reg ?_
        refine wr_y rfl (y_assign rfl) ?_
        refine wr_nil ?_
        refine w_retR (R1 := []) (fun _ h => h.sel [] (by decide) rfl) ?_
        refine ⟨_, rfl, ?_⟩
        rfl
      ·
        have hm1 : 0 ≤ rd s i * q := Int.mul_nonneg (by omega) (by omega)
        have hm2 : rd s i * q ≤ 200 * 9 := Int.mul_le_mul (by omega) (by omega) (by omega) (by omega)
        refine w_skip ?_
        refine w_reg ?_
        refine wr_y rfl (y_move rfl) ?_
        refine wr_y rfl (y_move rfl) ?_
        refine wr_y rfl (y_move rfl) ?_
        refine wr_y rfl (y_index1 Try.underlying22 sz3 rfl rfl (h_s.c _) (by omega) (by omega)) ?_
        refine wr_y rfl (y_ldI Try.underlying3 rfl rfl (h_s.c _) (by omega) (by omega)) ?_
        refine wr_y rfl (y_move rfl) ?_
        refine wr_y rfl (y_mulI rfl rfl (by omega)) ?_
        refine wr_y rfl (y_move rfl) ?_
        refine wr_y rfl (y_addI rfl rfl (by omega)) ?_
        refine wr_a rfl (a_litI .i64 [((rd s i) * q) + m] Try.underlying22 zs3 rfl rfl rfl) ?_
        rintro _ _ ⟨g_2, rfl, rfl⟩
        refine wr_a rfl (a_appendI 1 rfl Try.underlying22 zb3 rfl rfl rfl (rdr 0 rfl) (by omega)) ?_
        rintro _ _ ⟨A_3, c_4, rfl, rfl⟩
        refine wr_rows (R1 := [⟨3, 1, (some ⟨g_2, 0, none⟩), 1, 1, ints .i64 ([((rd s i) * q) + m]), false⟩, ⟨3, 1, A_3, (n1 + 1), c_4, ints .i64 (acc ++ ([((rd s i) * q) + m])), false⟩]) rfl ?_
        refine wr_as (v := .slice A_3 (n1 + 1) c_4) rfl ?_
        refine wr_y rfl (y_assign rfl) ?_
        refine wr_nil ?_
        refine w_reg ?_
        refine wr_y rfl (y_move rfl) ?_
        refine wr_y rfl (y_addI rfl rfl (by omega)) ?_
        refine wr_y rfl (y_assign rfl) ?_
        refine wr_nil ?_
        exact ⟨A_3, n1 + 1, c_4, acc ++ ([((rd s i) * q) + m]), i + 1, ⟨(by rw [List.length_append, hn1]; try rfl), (by omega), (by omega), (by rw [take_rd hi0 (by omega), List.map_append, hacc]; rfl), (by rw [take_rd hi0 (by omega)]; intro x hx; rcases List.mem_append.1 hx with hx | hx; exact hall x hx; obtain rfl := List.mem_singleton.1 hx; omega)⟩, (by omega), (Sub.cons rfl (Sub.cons rfl (Sub.cons rfl (Sub.cons rfl (Sub.cons rfl Sub.nil))))), fun _ h => h.sel [1] (by decide) rfl⟩
    ·
      have hs1 : ∀ x ∈ s, 0 ≤ x ∧ x ≤ 200 := by rw [List.take_of_length_le (by omega)] at hall; exact hall
      have hac : acc = s.map (fun x => x * q + m) := by rw [hacc, List.take_of_length_le (by omega)]
      have hmono : ∀ x y : Int, x < y ↔ (fun x => x * q + m) x < (fun x => x * q + m) y := fun x y => by
        have h1 : x < y → x * q < y * q := fun h => Int.mul_lt_mul_of_pos_right h (by omega)
        have h2 : y ≤ x → y * q ≤ x * q := fun h => Int.mul_le_mul_of_nonneg_right h (by omega)
        simp only
        omega
      have hal2 : acc.length = s.length := by omega
      refine w_exit ?_
      refine w_seq ?_
      refine w_reg ?_
      refine wr_y rfl (y_move rfl) ?_
      refine wr_a rfl (a_callF en35 rfl (Ct.fresh (fun w hw => sints_ct ((h_s.c _) w hw) ⟨by omega, fun x hx => by have := hs1 x hx; omega⟩ (by omega)))) ?_
      rintro _ _ ⟨_, rfl, a1, A_5, c_6, rfl, hp_a1, hs_a1, rfl⟩
      refine wr_y rfl (y_move rfl) ?_
      refine wr_y rfl (y_extract rfl rfl) ?_
      refine wr_y rfl (y_extract rfl rfl) ?_
      refine wr_y rfl (y_assign rfl) ?_
      refine wr_y rfl (y_assign rfl) ?_
      refine wr_nil ?_
      refine w_seq ?_
      refine w_reg ?_
      refine wr_y rfl (y_move rfl) ?_
      refine wr_y rfl (y_move rfl) ?_
      refine wr_y rfl (y_mulI rfl rfl (by omega)) ?_
      refine wr_y rfl (y_move rfl) ?_
      refine wr_y rfl (y_addI rfl rfl (by omega)) ?_
      refine wr_y rfl (y_addI rfl rfl (by omega)) ?_
      refine wr_a rfl (a_callF en35 rfl (Ct.fresh (fun w hw => sints_ct ((rdr 1 rfl) w hw) ⟨by omega, fun x hx => by
            rw [hac] at hx
            obtain ⟨y, hy, rfl⟩ := List.mem_map.1 hx
            have h1 := hs1 y hy
            have h2 : 0 ≤ y * q := Int.mul_nonneg (by omega) (by omega)
            have h3 : y * q ≤ 200 * q := Int.mul_le_mul_of_nonneg_right (by omega) (by omega)
            show 0 ≤ y * q + m ∧ y * q + m < _
            omega⟩ (by omega)))) ?_
      rintro _ _ ⟨_, rfl, b1, A_8, c_9, rfl, hp_b1, hs_b1, rfl⟩
      refine wr_y rfl (y_move rfl) ?_
      refine wr_y rfl (y_extract rfl rfl) ?_
      refine wr_y rfl (y_extract rfl rfl) ?_
      refine wr_y rfl (y_assign rfl) ?_
      refine wr_y rfl (y_assign rfl) ?_
      refine wr_nil ?_
      refine w_seq ?_
      refine w_reg ?_
      refine wr_y rfl (y_move rfl) ?_
      refine wr_y rfl (Yl.t (y_eq rfl rfl) (rfl)) ?_
      refine wr_y rfl (y_move rfl) ?_
      refine wr_yes rfl rfl ?_
      refine wr_y rfl (y_move rfl) ?_
      refine wr_yes rfl rfl ?_
      refine wr_y rfl (Yl.t (y_eq rfl rfl) (rfl)) ?_
      refine wr_y rfl (y_pickT rfl rfl) ?_
      refine wr_y rfl (y_move rfl) ?_
      refine wr_yes rfl rfl ?_
      refine wr_y rfl (y_move rfl) ?_
      refine wr_yes rfl rfl ?_
      refine wr_y rfl (y_len Try.underlying22 rfl) ?_
      refine wr_yes rfl rfl ?_
      refine wr_y rfl (y_move rfl) ?_
      refine wr_yes rfl rfl ?_
      refine wr_y rfl (y_len Try.underlying22 rfl) ?_
      refine wr_yes rfl rfl ?_
      refine wr_y rfl (Yl.t (y_eq rfl rfl) (rfl)) ?_
      refine wr_y rfl (y_pickT rfl rfl) ?_
      refine wr_y rfl (y_move rfl) ?_
      refine wr_yes rfl rfl ?_
      refine wr_y rfl (y_move rfl) ?_
      refine wr_yes rfl rfl ?_
      refine wr_y rfl (y_move rfl) ?_
      refine wr_yes rfl rfl ?_
      refine wr_a rfl (a_callF en21 rfl (Ct.quiet (fun w hw => ints4_ct ((rdr 1 rfl) w hw) ((rdr 0 rfl) w hw) (by rw [hp_a1.length_eq, iota_len]; omega)))) ?_
      rintro _ _ ⟨rfl, rfl⟩
      refine wr_setT 92 rfl (by rw [hac] at hp_b1 hs_b1; exact spread_eq hmono hp_a1 hs_a1 hp_b1 hs_b1) ?_
      refine wr_y rfl (y_pickT rfl rfl) ?_
      refine wr_y rfl (y_move rfl) ?_
      refine wr_yes rfl rfl ?_
      refine wr_a rfl (a_callF en36 rfl (Ct.quiet (fun w hw => known13_ct))) ?_
      rintro _ _ ⟨rfl, rfl⟩
      refine wr_y rfl (y_pickT rfl rfl) ?_
      refine wr_y rfl (y_assign rfl) ?_
      refine wr_nil ?_
      refine w_retR (R1 := []) (fun _ h => h.sel [] (by decide) rfl) ?_
      refine ⟨_, rfl, ?_⟩
      rfl

end Go.Proofs.Ytlagmdccneompaa
