/- Several texts of our own in one: X1. -/
import Derived.Test.YtdfcnalkdlifiaaMX3
/-! ## X1 -/
namespace Go.Proofs.Ytdfcnalkdlifiaa
open Go Go.Eng Go.Pure
set_option linter.unusedVariables false
abbrev emptyP (ws : List (List Int)) : Prop := ∃ w ∈ ws, w.length = 0
theorem emptyP_at {ws : List (List Int)} {i : Int} (h0 : 0 ≤ i) (h1 : i < ws.length) (h : ((rdl ws i).length : Int) = 0) : emptyP ws := ⟨_, rdl_mem2 h0 h1, by omega⟩
theorem emptyP_no {ws : List (List Int)} {i : Int} (hi : (ws.length : Int) ≤ i) (h : ∀ j : Int, 0 ≤ j → j < i → j < ws.length → 0 < (rdl ws j).length) : ¬ emptyP ws := fun ⟨w, hw, e⟩ => by
  obtain ⟨k, hk, rfl⟩ := List.mem_iff_getElem.1 hw
  have := h k (by omega) (by omega) (by omega)
  unfold rdl at this
  rw [Int.toNat_natCast, List.getD_eq_getElem?_getD, List.getElem?_eq_getElem hk] at this
  simp at this
  omega
set_option maxRecDepth 100000 in
theorem len0_ct {w : World} {A_u : Option Addr} {n_u c_u : Nat} {u : List Int} (h_u : Rd w A_u n_u c_u 1 (ints .u8 u)) :
    Ct Try.prog 47 #[.slice A_u n_u c_u] w.heap.size w [] (fun v R' => v = .bool (decide ((u.length : Int) = 0))) := by
  obtain rfl := h_u.lenI
  refine fn1 Try.func47 rfl rfl rfl ?_
  have m_u := h_u.max
  refine w_seq ?_
  refine w_reg ?_
  refine wr_y rfl (y_assign rfl) ?_
  refine wr_nil ?_
  refine w_seq ?_
  refine w_reg ?_
  refine wr_y rfl (y_move rfl) ?_
  refine wr_y rfl (y_len Try.underlying22 rfl) ?_
  refine wr_y rfl (y_eq rfl rfl) ?_
  refine wr_y rfl (y_assign rfl) ?_
  refine wr_nil ?_
  refine w_ret ?_
  refine ⟨_, rfl, ?_⟩
  rfl

set_option maxRecDepth 100000 in
set_option maxHeartbeats 600000 in
theorem indexE_ct {w : World} {A_ws : Option Addr} {n_ws c_ws : Nat} {vals_ws : List Value} {ws : List (List Int)} (h_ws : Rd w A_ws n_ws c_ws 1 vals_ws) (s_ws : SlW .u8 w vals_ws ws) :
    Ct Try.prog 72 #[.slice A_ws n_ws c_ws, .func (.func 47) #[] #[]] w.heap.size w [] (fun v R' => ∃ z : Int, v = .int .i64 z ∧ (0 ≤ z ↔ emptyP ws)) := by
  obtain rfl : n_ws = ws.length := by have := h_ws.len; have := s_ws.1; omega
  refine fn1 Try.func72 rfl rfl rfl ?_
  have m_ws := h_ws.max
  refine w_seq ?_
  refine w_reg ?_
  refine wr_y rfl (y_assign rfl) ?_
  refine wr_nil ?_
  refine w_seq ?_
  refine w_seq ?_
  refine w_reg ?_
  refine wr_y rfl (y_move rfl) ?_
  refine wr_y rfl (y_len Try.underlying30 rfl) ?_
  refine wr_y rfl (y_move rfl) ?_
  refine wr_nil ?_
  refine w_block ?_
  refine w_loop1 (fun (k : Int) => [(0, .slice A_ws ws.length c_ws), (1, .func (.func 47) #[] #[]), (7, .int .i64 ((ws.length : Nat) : Int)), (8, .int .i64 k)]) (fun (k : Int) => []) (fun (k : Int) => (0 ≤ k) ∧ (k ≤ ws.length) ∧ (∀ j : Int, 0 ≤ j → j < k → j < ws.length → 0 < (rdl ws j).length)) (fun (k : Int) => (ws.length - k).toNat) ?_ ?_
  ·
    exact ⟨0, ⟨(by omega), (by omega), (fun j h1 h2 => by omega)⟩, (Sub.cons rfl (Sub.cons rfl (Sub.cons rfl (Sub.cons rfl Sub.nil)))), fun _ h => h⟩
  intro k ⟨hk0, hk1, hne⟩
  refine w_seq ?_
  refine w_reg ?_
  refine wr_y rfl (y_lt rfl rfl) ?_
  refine wr_nil ?_
  refine w_seq ?_
  refine w_if rfl (fun hc1 => ?_) (fun hc1 => ?_)
  ·
    refine w_skip ?_
    refine w_seq ?_
    refine w_block ?_
    refine w_seq ?_
    refine w_reg ?_
    refine wr_y rfl (y_move rfl) ?_
    refine wr_y rfl (y_assign rfl) ?_
    refine wr_nil ?_
    refine w_seq ?_
    refine w_reg ?_
    refine wr_y rfl (y_move rfl) ?_
    refine wr_y rfl (y_move rfl) ?_
    refine wr_y rfl (y_move rfl) ?_
    refine wr_y rfl (y_index1 Try.underlying30 sz22 rfl rfl (h_ws.c _) (by omega) (by omega)) ?_
    refine s_ws.elim (i := k) (by omega) (by omega) (fun A_1 c_2 hv_3 hr_4 hb_5 mhr_4 => ?_)
    refine wr_y rfl (y_ld Try.underlying22 rfl rfl rfl (h_ws.c _) hv_3) ?_
    refine wr_a rfl (a_call en47 rfl rfl (Ct.quiet (fun w hw => len0_ct ((hr_4.c _) w hw)))) ?_
    rintro _ _ ⟨rfl, rfl⟩
    refine wr_nil ?_
    refine w_if rfl (fun hc2 => ?_) (fun hc2 => ?_)
    ·
      refine w_seq ?_
      refine w_reg ?_
      refine wr_y rfl (y_move rfl) ?_
      refine wr_y rfl (y_assign rfl) ?_
      refine wr_nil ?_
      refine w_ret ?_
      refine ⟨_, rfl, ?_⟩
      exact ⟨k, rfl, ⟨fun _ => emptyP_at hk0 (by omega) (by assumption), fun _ => hk0⟩⟩
    ·
      refine w_skip ?_
      refine w_reg ?_
      refine wr_y rfl (y_addI rfl rfl (by omega)) ?_
      refine wr_y rfl (y_move rfl) ?_
      refine wr_nil ?_
      exact ⟨k + 1, ⟨(by omega), (by omega), (fun j h1 h2 h3 => by
          rcases Int.lt_or_le j k with g | g
          · exact hne j h1 g h3
          · obtain rfl : j = k := by omega
            omega)⟩, (by omega), (Sub.cons rfl (Sub.cons rfl (Sub.cons rfl (Sub.cons rfl Sub.nil)))), fun _ h => h⟩
  ·
    refine w_exit ?_
    refine w_seq ?_
    refine w_reg ?_
    refine wr_y rfl (y_assign rfl) ?_
    refine wr_nil ?_
    refine w_ret ?_
    refine ⟨_, rfl, ?_⟩
    exact ⟨-1, rfl, ⟨fun h => by omega, fun h => absurd h (emptyP_no (by omega) hne)⟩⟩

set_option maxRecDepth 100000 in
theorem containsE_ct {w : World} {A_ws : Option Addr} {n_ws c_ws : Nat} {vals_ws : List Value} {ws : List (List Int)} (h_ws : Rd w A_ws n_ws c_ws 1 vals_ws) (s_ws : SlW .u8 w vals_ws ws) :
    Ct Try.prog 46 #[.slice A_ws n_ws c_ws, .func (.func 47) #[] #[]] w.heap.size w [] (fun v R' => v = .bool (decide (emptyP ws))) := by
  obtain rfl : n_ws = ws.length := by have := h_ws.len; have := s_ws.1; omega
  refine fn1 Try.func46 rfl rfl rfl ?_
  have m_ws := h_ws.max
  refine w_seq ?_
  refine w_reg ?_
  refine wr_y rfl (y_assign rfl) ?_
  refine wr_nil ?_
  refine w_seq ?_
  refine w_reg ?_
  refine wr_y rfl (y_move rfl) ?_
  refine wr_y rfl (y_move rfl) ?_
  refine wr_a rfl (a_callF en72 rfl (Ct.quiet (fun w hw => indexE_ct ((h_ws.c _) w hw) (s_ws.c hw)))) ?_
  rintro _ _ ⟨rfl, z1, rfl, hz1⟩
  refine wr_y rfl (y_ge rfl rfl) ?_
  refine wr_y rfl (y_assign rfl) ?_
  refine wr_nil ?_
  refine w_ret ?_
  refine ⟨_, rfl, ?_⟩
  exact congrArg Value.bool (decide_eq_decide.2 hz1)

set_option maxRecDepth 100000 in
set_option maxHeartbeats 2000000 in
theorem extTurn_ct {w : World} {A_ws : Option Addr} {n_ws c_ws : Nat} {vals_ws : List Value} {ws : List (List Int)} (h_ws : Rd w A_ws n_ws c_ws 1 vals_ws) (s_ws : SlW .u8 w vals_ws ws) (hN : (∀ w ∈ ws, w.length ≤ 8000) ∧ ws.length ≤ 100000) :
    Ct Try.prog 29 #[.slice A_ws n_ws c_ws] w.heap.size w [] (fun v R' => ∃ (A A2 : Option Addr) (c c2 : Nat) (L TS : List Int) (e : Int), v = .tuple #[.slice A L.length c, .slice A2 TS.length c2, .int .i64 e] ∧ ExtR ws L TS e ∧ R' = [⟨5, 1, A, L.length, c, ints .u8 L, false⟩, ⟨3, 1, A2, TS.length, c2, ints .i64 TS, false⟩]) := by
  obtain rfl : n_ws = ws.length := by have := h_ws.len; have := s_ws.1; omega
  refine fn3 Try.func29 rfl rfl rfl ?_
  have m_ws := h_ws.max
  refine w_seq ?_
  refine w_reg ?_
  refine wr_sub (R1 := (⟨5, 1, none, 0, 0, ints .u8 ([]), false⟩ :: [])) (Sub.refl _) (fun _ h => h.nil 5 1) ?_
  refine wr_y rfl (y_assign rfl) ?_
  refine wr_sub (R1 := (⟨3, 1, none, 0, 0, ints .i64 ([]), false⟩ :: ⟨5, 1, none, 0, 0, ints .u8 ([]), false⟩ :: [])) (Sub.refl _) (fun _ h => h.nil 3 1) ?_
  refine wr_y rfl (y_assign rfl) ?_
  refine wr_y rfl (y_assign rfl) ?_
  refine wr_nil ?_
  refine w_seq ?_
  refine w_reg ?_
  refine wr_y rfl (y_assign rfl) ?_
  refine wr_nil ?_
  refine w_seq ?_
  refine w_seq ?_
  refine w_reg ?_
  refine wr_y rfl (y_move rfl) ?_
  refine wr_y rfl (y_len Try.underlying30 rfl) ?_
  refine wr_y rfl (y_move rfl) ?_
  refine wr_nil ?_
  refine w_block ?_
  refine w_loop2 (fun (i : Int) (z : Int) => [(0, .slice A_ws ws.length c_ws), (5, .int .i64 z), (11, .slice A_ws ws.length c_ws), (12, .int .i64 ((ws.length : Nat) : Int)), (13, .int .i64 i)]) (fun (i : Int) (z : Int) => (⟨3, 1, none, 0, 0, ints .i64 ([]), false⟩ :: ⟨5, 1, none, 0, 0, ints .u8 ([]), false⟩ :: [])) (fun (i : Int) (z : Int) => (0 ≤ i) ∧ (i ≤ ws.length) ∧ (z = ((ws.take i.toNat).flatten.length : Int)) ∧ (0 ≤ z ∧ z ≤ i * 8000)) (fun (i : Int) (z : Int) => (ws.length - i).toNat) ?_ ?_
  ·
    exact ⟨0, 0, ⟨(by omega), (by omega), (rfl), (by omega)⟩, (Sub.cons rfl (Sub.cons rfl (Sub.cons rfl (Sub.cons rfl (Sub.cons rfl Sub.nil))))), fun _ h => h⟩
  intro i z ⟨hi0, hi1, hz, hz2⟩
  have hwl : 0 ≤ i → i < ws.length → (rdl ws i).length ≤ 8000 := fun h h' => hN.1 _ (rdl_mem2 h h')
  refine w_seq ?_
  refine w_reg ?_
  refine wr_y rfl (y_lt rfl rfl) ?_
  refine wr_nil ?_
  refine w_seq ?_
  refine w_if rfl (fun hc1 => ?_) (fun hc1 => ?_)
  ·
    have hwl2 := hwl hi0 (by omega)
    refine w_skip ?_
    refine w_seq ?_
    refine w_block ?_
    refine w_seq ?_
    refine w_reg ?_
    refine wr_y rfl (y_index1 Try.underlying30 sz22 rfl rfl (h_ws.c _) (by omega) (by omega)) ?_
    refine s_ws.elim (i := i) (by omega) (by omega) (fun A_1 c_2 hv_3 hr_4 hb_5 mhr_4 => ?_)
    refine wr_y rfl (y_ld Try.underlying22 rfl rfl rfl (h_ws.c _) hv_3) ?_
    refine wr_y rfl (y_assign rfl) ?_
    refine wr_nil ?_
    refine w_reg ?_
    refine wr_y rfl (y_move rfl) ?_
    refine wr_y rfl (y_move rfl) ?_
    refine wr_y rfl (y_len Try.underlying22 rfl) ?_
    refine wr_y rfl (y_addI rfl rfl (by omega)) ?_
    refine wr_y rfl (y_assign rfl) ?_
    refine wr_nil ?_
    refine w_reg ?_
    refine wr_y rfl (y_addI rfl rfl (by omega)) ?_
    refine wr_y rfl (y_move rfl) ?_
    refine wr_nil ?_
    exact ⟨i + 1, z + (((rdl ws i).length : Nat) : Int), ⟨(by omega), (by omega), (by rw [flat_take_succ hi0 (by omega), List.length_append, hz]; omega), (by omega)⟩, (by omega), (Sub.cons rfl (Sub.cons rfl (Sub.cons rfl (Sub.cons rfl (Sub.cons rfl Sub.nil))))), fun _ h => h⟩
  ·
    obtain rfl : i = ws.length := by omega
    rw [Int.toNat_natCast, List.take_length] at hz
    refine w_exit ?_
    refine w_seq ?_
    refine w_seq ?_
    refine w_reg ?_
    refine wr_y rfl (y_move rfl) ?_
    refine wr_y rfl (y_len Try.underlying30 rfl) ?_
    refine wr_y rfl (y_gt rfl rfl) ?_
    refine wr_y rfl (y_move rfl) ?_
    refine wr_mid 3 [(0, .slice A_ws ws.length c_ws), (28, .bool (decide ((1000 < ((ws.length : Nat) : Int)) ∨ (100000 < z))))] (⟨3, 1, none, 0, 0, ints .i64 ([]), false⟩ :: ⟨5, 1, none, 0, 0, ints .u8 ([]), false⟩ :: []) ?_ ?_
    ·
      refine wr_case 25 rfl (fun hc2 => ?_) (fun hc2 => ?_)
      ·
        refine wr_no rfl rfl rfl rfl ?_
        refine wr_no rfl rfl rfl rfl ?_
        refine wr_y rfl (y_pickT rfl rfl) ?_
        refine wr_nil ?_
        exact ⟨(Sub.cons rfl (Sub.to rfl (mb_t (by first | omega | exact ⟨fun h => ⟨(by assumption), h⟩, fun h => h.2⟩ | simp [*])) Sub.nil)), fun _ h => h⟩
      ·
        refine wr_yes rfl rfl ?_
        refine wr_y rfl (y_move rfl) ?_
        refine wr_yes rfl rfl ?_
        refine wr_y rfl (y_gt rfl rfl) ?_
        refine wr_y rfl (y_pickF rfl rfl) ?_
        refine wr_nil ?_
        exact ⟨(Sub.cons rfl (Sub.to rfl (mb (by first | omega | exact ⟨fun h => ⟨(by assumption), h⟩, fun h => h.2⟩ | simp [*])) Sub.nil)), fun _ h => h⟩
    refine wr_nil ?_
    refine w_if rfl (fun hc3 => ?_) (fun hc3 => ?_)
    ·
      refine w_seq ?_
      refine w_reg ?_
      refine wr_y rfl (y_assign rfl) ?_
      refine wr_y rfl (y_assign rfl) ?_
      refine wr_y rfl (y_assign rfl) ?_
      refine wr_nil ?_
      refine w_retR (R1 := [⟨5, 1, none, 0, 0, ints .u8 ([]), false⟩, ⟨3, 1, none, 0, 0, ints .i64 ([]), false⟩]) (fun _ h => (h.selR (F := [_, _]) (F' := [_, _]) [1, 0] (by decide) rfl).left (X := [_, _])) ?_
      refine ⟨_, _, _, rfl, rfl, rfl, ?_⟩
      exact ⟨_, _, _, _, [], [], 2, rfl, .inl ⟨rfl, by omega, rfl, rfl⟩, rfl⟩
    ·
      refine w_skip ?_
      refine w_seq ?_
      refine w_seq ?_
      refine w_reg ?_
      refine wr_y rfl (y_move rfl) ?_
      refine wr_a rfl (a_callF en46 rfl (Ct.quiet (fun w hw => containsE_ct ((h_ws.c _) w hw) (s_ws.c hw)))) ?_
      rintro _ _ ⟨rfl, rfl⟩
      refine wr_nil ?_
      refine w_if rfl (fun hc4 => ?_) (fun hc4 => ?_)
      ·
        refine w_seq ?_
        refine w_reg ?_
        refine wr_y rfl (y_assign rfl) ?_
        refine wr_y rfl (y_assign rfl) ?_
        refine wr_y rfl (y_assign rfl) ?_
        refine wr_nil ?_
        refine w_retR (R1 := [⟨5, 1, none, 0, 0, ints .u8 ([]), false⟩, ⟨3, 1, none, 0, 0, ints .i64 ([]), false⟩]) (fun _ h => (h.selR (F := [_, _]) (F' := [_, _]) [1, 0] (by decide) rfl).left (X := [_, _])) ?_
        refine ⟨_, _, _, rfl, rfl, rfl, ?_⟩
        exact ⟨_, _, _, _, [], [], 1, rfl, .inr (.inl ⟨by omega, rfl, hc4, rfl, rfl⟩), rfl⟩
      ·
        refine w_skip ?_
        refine w_seq ?_
        refine w_reg ?_
        refine wr_a rfl (a_litI .u8 [] Try.underlying22 zs5 rfl rfl rfl) ?_
        rintro _ _ ⟨g_7, rfl, rfl⟩
        refine wr_y rfl (y_assign rfl) ?_
        refine wr_nil ?_
        refine w_seq ?_
        refine w_seq ?_
        refine w_reg ?_
        refine wr_y rfl (y_move rfl) ?_
        refine wr_a rfl (a_callF en36 rfl (Ct.fresh (fun w hw => turns_ct ((h_ws.c _) w hw) (s_ws.c hw) ⟨by omega, by omega⟩))) ?_
        rintro _ _ ⟨_, rfl, lt, A_9, c_10, rfl, hpt, hst, rfl⟩
        refine wr_y rfl (y_len Try.underlying49 rfl) ?_
        refine wr_y rfl (y_move rfl) ?_
        refine wr_nil ?_
        refine w_block ?_
        refine w_loop5 (fun (q : Int) (B1 : Option Addr) (m1 : Nat) (d1 : Nat) (acc : List Int) => [(0, .slice A_ws ws.length c_ws), (2, .slice B1 m1 d1), (33, .slice A_9 lt.length c_10), (34, .int .i64 ((lt.length : Nat) : Int)), (35, .int .i64 q)]) (fun (q : Int) (B1 : Option Addr) (m1 : Nat) (d1 : Nat) (acc : List Int) => (⟨51, 2, A_9, lt.length, c_10, prs lt, false⟩ :: ⟨5, 1, B1, m1, d1, ints .u8 acc, false⟩ :: ⟨3, 1, none, 0, 0, ints .i64 ([]), false⟩ :: ⟨5, 1, none, 0, 0, ints .u8 ([]), false⟩ :: [])) (fun (q : Int) (B1 : Option Addr) (m1 : Nat) (d1 : Nat) (acc : List Int) => (0 ≤ q) ∧ (q ≤ lt.length) ∧ (m1 = acc.length) ∧ (acc.length = q.toNat) ∧ (acc = (lt.take q.toNat).map (lastB ws))) (fun (q : Int) (B1 : Option Addr) (m1 : Nat) (d1 : Nat) (acc : List Int) => (lt.length - q).toNat) ?_ ?_
        ·
          exact ⟨0, some ⟨g_7, 0, none⟩, 0, 0, [], ⟨(by omega), (by omega), (rfl), (rfl), (rfl)⟩, (Sub.cons rfl (Sub.cons rfl (Sub.cons rfl (Sub.cons rfl (Sub.cons rfl Sub.nil))))), fun _ h => h⟩
        intro q B1 m1 d1 acc ⟨hq0, hq1, hm1, haq, hacc⟩
        have hll := all_len hpt
        refine w_seq ?_
        refine w_reg ?_
        refine wr_y rfl (y_lt rfl rfl) ?_
        refine wr_nil ?_
        refine w_seq ?_
        refine w_if rfl (fun hc5 => ?_) (fun hc5 => ?_)
        ·
          have ht := mem_all.1 (hpt.subset (rdp_mem (l := lt) hq0 (by omega)))
          have htm := ht.2.2
          have he0 := Int.emod_nonneg ((rdp lt q).2 + (rdl ws (rdp lt q).1).length - 1) (show ((rdl ws (rdp lt q).1).length : Int) ≠ 0 by omega)
          have he1 := Int.emod_lt_of_pos ((rdp lt q).2 + (rdl ws (rdp lt q).1).length - 1) (show (0 : Int) < (rdl ws (rdp lt q).1).length by omega)
          refine w_skip ?_
          refine w_seq ?_
          refine w_block ?_
          refine w_seq ?_
          refine w_reg ?_
          refine wr_y rfl (y_index Try.underlying49 sz51 rfl rfl (rdr 0 rfl) rfl (by omega) (by omega)) ?_
          refine wr_y rfl (y_ldP Try.underlying51 rfl sz51 rfl (rdr 0 rfl) (by omega) (by omega)) ?_
          refine wr_a rfl (a_alloc (sz := 2) zz51 rfl) ?_
          rintro _ _ ⟨g_13, rfl, rfl⟩
          refine wr_rows (R1 := (⟨51, 2, (some ⟨g_13, 0, none⟩), 1, 1, [.int .i64 0, .int .i64 0], false⟩ :: ⟨51, 2, A_9, lt.length, c_10, prs lt, false⟩ :: ⟨5, 1, B1, m1, d1, ints .u8 acc, false⟩ :: ⟨3, 1, none, 0, 0, ints .i64 ([]), false⟩ :: ⟨5, 1, none, 0, 0, ints .u8 ([]), false⟩ :: [])) rfl ?_
          refine wr_n (a_storeAll (vs := [.int .i64 ((rdp lt q).1), .int .i64 ((rdp lt q).2)]) 0 rfl sz51 rfl rfl rfl (by intro v hv; simp at hv; rcases hv with rfl | rfl <;> rfl) rfl) ?_
          rintro _ _ rfl
          refine wr_rows (R1 := (⟨51, 2, (some ⟨g_13, 0, none⟩), 1, 1, [.int .i64 ((rdp lt q).1), .int .i64 ((rdp lt q).2)], false⟩ :: ⟨51, 2, A_9, lt.length, c_10, prs lt, false⟩ :: ⟨5, 1, B1, m1, d1, ints .u8 acc, false⟩ :: ⟨3, 1, none, 0, 0, ints .i64 ([]), false⟩ :: ⟨5, 1, none, 0, 0, ints .u8 ([]), false⟩ :: [])) rfl ?_
          refine wr_nil ?_
          refine w_seq ?_
          refine w_reg ?_
          refine wr_y rfl (y_move rfl) ?_
          refine wr_y rfl (y_indexIn (q := 0) (rdR 0 (r := ⟨51, 2, (some ⟨g_13, 0, none⟩), 1, 1, [.int .i64 ((rdp lt q).1), .int .i64 ((rdp lt q).2)], false⟩) rfl) Try.underlying51 sz3 rfl rfl (Nat.le_of_ble_eq_true rfl) (by decide) (by decide) rfl) ?_
          refine wr_y rfl (y_ldIn (rdR 0 (r := ⟨51, 2, (some ⟨g_13, 0, none⟩), 1, 1, [.int .i64 ((rdp lt q).1), .int .i64 ((rdp lt q).2)], false⟩) rfl) Try.underlying3 rfl rfl rfl) ?_
          refine wr_y rfl (y_index1 Try.underlying30 sz22 rfl rfl (h_ws.c _) (by first | exact ht.1 | exact ht.2.1) (by first | exact ht.1 | exact ht.2.1)) ?_
          refine s_ws.elim (i := (rdp lt q).1) (by first | exact ht.1 | exact ht.2.1) (by first | exact ht.1 | exact ht.2.1) (fun A_14 c_15 hv_16 hr_17 hb_18 mhr_17 => ?_)
          refine wr_y rfl (y_ld Try.underlying22 rfl rfl rfl (h_ws.c _) hv_16) ?_
          refine wr_y rfl (y_assign rfl) ?_
          refine wr_nil ?_
          refine w_reg ?_
          refine wr_y rfl (y_move rfl) ?_
          refine wr_y rfl (y_move rfl) ?_
          refine wr_y rfl (y_indexIn (q := 1) (rdR 0 (r := ⟨51, 2, (some ⟨g_13, 0, none⟩), 1, 1, [.int .i64 ((rdp lt q).1), .int .i64 ((rdp lt q).2)], false⟩) rfl) Try.underlying51 sz3 rfl rfl (Nat.le_of_ble_eq_true rfl) (by decide) (by decide) rfl) ?_
          refine wr_y rfl (y_ldIn (rdR 0 (r := ⟨51, 2, (some ⟨g_13, 0, none⟩), 1, 1, [.int .i64 ((rdp lt q).1), .int .i64 ((rdp lt q).2)], false⟩) rfl) Try.underlying3 rfl rfl rfl) ?_
          refine wr_y rfl (y_move rfl) ?_
          refine wr_y rfl (y_len Try.underlying22 rfl) ?_
          refine wr_y rfl (y_addI rfl rfl (by omega)) ?_
          refine wr_y rfl (y_subI rfl rfl (by omega)) ?_
          refine wr_y rfl (y_move rfl) ?_
          refine wr_y rfl (y_len Try.underlying22 rfl) ?_
          refine wr_y rfl (y_rem rfl rfl (by omega) (by omega)) ?_
          refine wr_y rfl (y_index1 Try.underlying22 sz5 rfl rfl (hr_17.c _) (by omega) (by omega)) ?_
          refine wr_y rfl (y_ldI Try.underlying5 rfl rfl (hr_17.c _) (by omega) (by omega)) ?_
          refine wr_a rfl (a_litI .u8 [rd (rdl ws ((rdp lt q).1)) (((((rdp lt q).2) + (((rdl ws ((rdp lt q).1)).length : Nat) : Int)) - 1) % (((rdl ws ((rdp lt q).1)).length : Nat) : Int))] Try.underlying22 zs5 rfl rfl rfl) ?_
          rintro _ _ ⟨g_20, rfl, rfl⟩
          refine wr_a rfl (a_appendI 3 rfl Try.underlying22 zb5 rfl rfl rfl (rdr 0 rfl) (by omega)) ?_
          rintro _ _ ⟨A_21, c_22, rfl, rfl⟩
          refine wr_rows (R1 := (⟨5, 1, (some ⟨g_20, 0, none⟩), 1, 1, ints .u8 ([rd (rdl ws ((rdp lt q).1)) (((((rdp lt q).2) + (((rdl ws ((rdp lt q).1)).length : Nat) : Int)) - 1) % (((rdl ws ((rdp lt q).1)).length : Nat) : Int))]), false⟩ :: ⟨51, 2, (some ⟨g_13, 0, none⟩), 1, 1, [.int .i64 ((rdp lt q).1), .int .i64 ((rdp lt q).2)], false⟩ :: ⟨51, 2, A_9, lt.length, c_10, prs lt, false⟩ :: ⟨5, 1, A_21, (m1 + 1), c_22, ints .u8 (acc ++ ([rd (rdl ws ((rdp lt q).1)) (((((rdp lt q).2) + (((rdl ws ((rdp lt q).1)).length : Nat) : Int)) - 1) % (((rdl ws ((rdp lt q).1)).length : Nat) : Int))])), false⟩ :: ⟨3, 1, none, 0, 0, ints .i64 ([]), false⟩ :: ⟨5, 1, none, 0, 0, ints .u8 ([]), false⟩ :: [])) rfl ?_
          refine wr_as (v := .slice A_21 (m1 + 1) c_22) rfl ?_
          refine wr_y rfl (y_assign rfl) ?_
          refine wr_nil ?_
          refine w_reg ?_
          refine wr_y rfl (y_addI rfl rfl (by omega)) ?_
          refine wr_y rfl (y_move rfl) ?_
          refine wr_nil ?_
          exact ⟨q + 1, A_21, m1 + 1, c_22, acc ++ ([rd (rdl ws ((rdp lt q).1)) (((((rdp lt q).2) + (((rdl ws ((rdp lt q).1)).length : Nat) : Int)) - 1) % (((rdl ws ((rdp lt q).1)).length : Nat) : Int))]), ⟨(by omega), (by omega), (by rw [List.length_append, hm1]; rfl), (by rw [List.length_append, haq, List.length_singleton]; omega), (by rw [take_rdp hq0 (by omega), List.map_append, hacc]; rfl)⟩, (by omega), (Sub.cons rfl (Sub.cons rfl (Sub.cons rfl (Sub.cons rfl (Sub.cons rfl Sub.nil))))), fun _ h => h.selR (F := [_, _, _, _, _, _]) (F' := [_, _, _, _]) [2, 3, 4, 5] (by decide) rfl⟩
        ·
          refine w_exit ?_
          refine w_seq ?_
          refine w_reg ?_
          refine wr_y rfl (y_move rfl) ?_
          refine wr_a rfl (a_callF en23 rfl (Ct.fresh (fun w hw => rootsN_ct ((h_ws.c _) w hw) (s_ws.c hw) hN))) ?_
          rintro _ _ ⟨_, rfl, A_23, c_24, A_25, c_26, vals_27, Rs_28, rfl, hsl_29, rfl⟩
          have hn_hsl_29 := hsl_29.1
          refine wr_sub (R1 := (⟨22, 1, A_23, vals_27.length, c_24, vals_27, false⟩ :: ⟨3, 1, A_25, ((ringS ws).map Prod.snd).length, c_26, ints .i64 ((ringS ws).map Prod.snd), false⟩ :: ⟨51, 2, A_9, lt.length, c_10, prs lt, false⟩ :: ⟨5, 1, B1, m1, d1, ints .u8 acc, false⟩ :: ⟨3, 1, none, 0, 0, ints .i64 ([]), false⟩ :: ⟨5, 1, none, 0, 0, ints .u8 ([]), false⟩ :: Rs_28)) (Sub.refl _) (fun _ h => Hp.toTail0 (X := [_, _]) (Y := [_, _, _, _]) h) ?_
          refine wr_y rfl (y_move rfl) ?_
          refine wr_y rfl (y_extract rfl rfl) ?_
          refine wr_y rfl (y_extract rfl rfl) ?_
          refine wr_y rfl (y_assign rfl) ?_
          refine wr_nil ?_
          refine w_seq ?_
          refine w_reg ?_
          refine wr_y rfl (y_move rfl) ?_
          refine wr_y rfl (y_move rfl) ?_
          refine wr_y rfl (y_assign rfl) ?_
          refine wr_y rfl (y_assign rfl) ?_
          refine wr_y rfl (y_assign rfl) ?_
          refine wr_nil ?_
          refine w_retR (R1 := [⟨5, 1, B1, m1, d1, ints .u8 acc, false⟩, ⟨3, 1, A_25, ((ringS ws).map Prod.snd).length, c_26, ints .i64 ((ringS ws).map Prod.snd), false⟩]) (fun _ h => (h.selR (F := [_, _, _, _, _, _]) (F' := [_, _]) [3, 1] (by decide) rfl).left (X := [_, _])) ?_
          refine ⟨_, _, _, rfl, rfl, rfl, ?_⟩
          rw [List.take_of_length_le (by omega)] at hacc
          obtain rfl := hm1
          exact ⟨_, _, _, _, acc, _, 0, rfl, .inr (.inr ⟨by omega, rfl, fun w hw => Nat.pos_of_ne_zero fun e => hc4 ⟨w, hw, e⟩, ⟨lt, hpt, hst, hacc⟩, rfl⟩), rfl⟩

theorem _root_.Go.Pure.ExtR.bytes {ws : List (List Int)} {L TS : List Int} {e : Int} (h : ExtR ws L TS e) (hb : ∀ w ∈ ws, ByteL w) : ByteL L := by
  rcases h with ⟨_, _, rfl, _⟩ | ⟨_, _, _, rfl, _⟩ | ⟨_, _, _, ⟨T, hp, _, rfl⟩, _⟩
  · exact ByteL.nil
  · exact ByteL.nil
  · exact lastB_bytes hp fun x hx => by
      obtain ⟨w, hw, h⟩ := List.mem_flatten.1 hx
      exact hb w hw x h
theorem _root_.Go.Pure.ExtR.tlen {ws : List (List Int)} {L TS : List Int} {e : Int} (h : ExtR ws L TS e) : TS.length ≤ ws.length := by
  rcases h with ⟨_, _, _, rfl⟩ | ⟨_, _, _, _, rfl⟩ | ⟨_, _, _, _, rfl⟩
  · exact Nat.zero_le _
  · exact Nat.zero_le _
  · rw [List.length_map, (ringS_perm ws).length_eq]; exact ringsOf_few ws
theorem _root_.Go.Pure.ExtR.all {ws : List (List Int)} {L TS : List Int} {e : Int} (h : ExtR ws L TS e) (he : e = 0) : TS.length = ws.length ∧ ∀ w ∈ ws, 0 < w.length := by
  rcases h with ⟨rfl, _⟩ | ⟨_, rfl, _⟩ | ⟨_, _, hne, _, rfl⟩
  · omega
  · omega
  · refine ⟨?_, hne⟩
    rw [List.length_map, (ringS_perm ws).length_eq]
    unfold ringsOf
    rw [List.length_map, List.filter_eq_self.2 fun w hw => decide_eq_true (hne w hw)]
theorem _root_.Go.Pure.ExtR.code {ws : List (List Int)} {L TS : List Int} {e : Int} (h : ExtR ws L TS e) (hf : ws.flatten.length ≤ 100000) : (1000 < ws.length → e = 2) ∧ (ws.length ≤ 1000 → emptyP ws → e = 1) ∧ (ws.length ≤ 1000 → ¬ emptyP ws → e = 0) := by
  rcases h with ⟨rfl, c, _⟩ | ⟨c, rfl, d, _⟩ | ⟨c, rfl, d, _⟩
  · exact ⟨fun _ => rfl, fun h => by omega, fun h => by omega⟩
  · exact ⟨fun h => by omega, fun _ _ => rfl, fun _ h => absurd d h⟩
  · refine ⟨fun h => by omega, fun _ ⟨w, hw, e⟩ => ?_, fun _ _ => rfl⟩
    have := d w hw
    omega
theorem other_lens {ws ls : List (List Int)} {i : Int} {x : List Int} (hx : x.length = (rdl ws i).length) (h0 : 0 ≤ i) (h1 : i < ws.length) (h : (ls.map List.length).Perm ((ws.drop (i + 1).toNat).map List.length)) : ((ls ++ [x]).map List.length).Perm ((ws.drop (i - 1 + 1).toNat).map List.length) := by
  rw [show i - 1 + 1 = i by omega, rdl_drop h0 h1, List.map_append, List.map_cons, List.map_cons, List.map_nil, hx]
  exact List.perm_append_comm.trans (List.Perm.cons _ h)
theorem lens_flat {a b : List (List Int)} (h : (a.map List.length).Perm (b.map List.length)) : a.length = b.length ∧ a.flatten.length = b.flatten.length ∧ (emptyP a ↔ emptyP b) := by
  have hm : ∀ c : List (List Int), emptyP c ↔ 0 ∈ c.map List.length := fun c => by
    unfold emptyP
    rw [List.mem_map]
  refine ⟨by have := h.length_eq; rwa [List.length_map, List.length_map] at this, ?_, by rw [hm, hm]; exact h.mem_iff⟩
  rw [List.length_flatten, List.length_flatten]
  exact h.sum_nat
set_option maxRecDepth 100000 in
set_option maxHeartbeats 600000 in
theorem long24_ct {w : World} {A_ws : Option Addr} {n_ws c_ws : Nat} {vals_ws : List Value} {ws : List (List Int)} (h_ws : Rd w A_ws n_ws c_ws 1 vals_ws) (s_ws : SlW .u8 w vals_ws ws) :
    Ct Try.prog 27 #[.slice A_ws n_ws c_ws] w.heap.size w [] (fun v R' => v = .bool (decide (longP 60 ws))) := by
  obtain rfl : n_ws = ws.length := by have := h_ws.len; have := s_ws.1; omega
  refine fn1 Try.func27 rfl rfl rfl ?_
  have m_ws := h_ws.max
  refine w_seq ?_
  refine w_reg ?_
  refine wr_y rfl (y_assign rfl) ?_
  refine wr_nil ?_
  refine w_seq ?_
  refine w_reg ?_
  refine wr_y rfl (y_assign rfl) ?_
  refine wr_nil ?_
  refine w_seq ?_
  refine w_seq ?_
  refine w_reg ?_
  refine wr_y rfl (y_assign rfl) ?_
  refine wr_nil ?_
  refine w_block ?_
  refine w_loop2 (fun (i : Int) (z : Int) => [(0, .slice A_ws ws.length c_ws), (3, .int .i64 z), (4, .int .i64 i)]) (fun (i : Int) (z : Int) => []) (fun (i : Int) (z : Int) => (0 ≤ i) ∧ (i ≤ ws.length) ∧ (i ≤ 40) ∧ (z = ((ws.take i.toNat).flatten.length : Int)) ∧ (0 ≤ z ∧ z ≤ i * 140737488355327)) (fun (i : Int) (z : Int) => (ws.length - i).toNat) ?_ ?_
  ·
    exact ⟨0, 0, ⟨(by omega), (by omega), (by omega), (rfl), (by omega)⟩, (Sub.cons rfl (Sub.cons rfl (Sub.cons rfl Sub.nil))), fun _ h => h⟩
  intro i z ⟨hi0, hi1, hi2, hz, hz2⟩
  refine w_seq ?_
  refine w_seq ?_
  refine w_reg ?_
  refine wr_y rfl (y_move rfl) ?_
  refine wr_y rfl (y_move rfl) ?_
  refine wr_y rfl (y_len Try.underlying30 rfl) ?_
  refine wr_y rfl (y_lt rfl rfl) ?_
  refine wr_y rfl (y_move rfl) ?_
  refine wr_mid 3 [(0, .slice A_ws ws.length c_ws), (3, .int .i64 z), (4, .int .i64 i), (12, .bool (decide ((i < ((ws.length : Nat) : Int)) ∧ (i < 40))))] [] ?_ ?_
  ·
    refine wr_case 9 rfl (fun hc1 => ?_) (fun hc1 => ?_)
    ·
      refine wr_yes rfl rfl ?_
      refine wr_y rfl (y_move rfl) ?_
      refine wr_yes rfl rfl ?_
      refine wr_y rfl (y_lt rfl rfl) ?_
      refine wr_y rfl (y_pickT rfl rfl) ?_
      refine wr_nil ?_
      exact ⟨(Sub.cons rfl (Sub.cons rfl (Sub.cons rfl (Sub.to rfl (mb (by first | omega | exact ⟨fun h => ⟨(by assumption), h⟩, fun h => h.2⟩ | simp [*])) Sub.nil)))), fun _ h => h⟩
    ·
      refine wr_no rfl rfl rfl rfl ?_
      refine wr_no rfl rfl rfl rfl ?_
      refine wr_y rfl (y_pickF rfl rfl) ?_
      refine wr_nil ?_
      exact ⟨(Sub.cons rfl (Sub.cons rfl (Sub.cons rfl (Sub.to rfl (mb_f (by first | omega | exact ⟨fun h => ⟨(by assumption), h⟩, fun h => h.2⟩ | simp [*])) Sub.nil)))), fun _ h => h⟩
  refine wr_nil ?_
  refine w_if rfl (fun hc2 => ?_) (fun hc2 => ?_)
  ·
    refine w_skip ?_
    refine w_seq ?_
    refine w_block ?_
    refine w_reg ?_
    refine wr_y rfl (y_move rfl) ?_
    refine wr_y rfl (y_move rfl) ?_
    refine wr_y rfl (y_move rfl) ?_
    refine wr_y rfl (y_index1 Try.underlying30 sz22 rfl rfl (h_ws.c _) (by omega) (by omega)) ?_
    refine s_ws.elim (i := i) (by omega) (by omega) (fun A_1 c_2 hv_3 hr_4 hb_5 mhr_4 => ?_)
    refine wr_y rfl (y_ld Try.underlying22 rfl rfl rfl (h_ws.c _) hv_3) ?_
    refine wr_y rfl (y_len Try.underlying22 rfl) ?_
    refine wr_y rfl (y_addI rfl rfl (by omega)) ?_
    refine wr_y rfl (y_assign rfl) ?_
    refine wr_nil ?_
    refine w_reg ?_
    refine wr_y rfl (y_move rfl) ?_
    refine wr_y rfl (y_addI rfl rfl (by omega)) ?_
    refine wr_y rfl (y_assign rfl) ?_
    refine wr_nil ?_
    exact ⟨i + 1, z + (((rdl ws i).length : Nat) : Int), ⟨(by omega), (by omega), (by omega), (by rw [flat_take_succ hi0 (by omega), List.length_append, hz]; omega), (by omega)⟩, (by omega), (Sub.cons rfl (Sub.cons rfl (Sub.cons rfl Sub.nil))), fun _ h => h⟩
  ·
    refine w_exit ?_
    refine w_seq ?_
    refine w_reg ?_
    refine wr_y rfl (y_move rfl) ?_
    refine wr_y rfl (y_gt rfl rfl) ?_
    refine wr_y rfl (y_move rfl) ?_
    refine wr_mid 4 [(28, .bool (decide ((60 < z) ∨ (30 < ((ws.length : Nat) : Int)))))] [] ?_ ?_
    ·
      refine wr_case 24 rfl (fun hc3 => ?_) (fun hc3 => ?_)
      ·
        refine wr_no rfl rfl rfl rfl ?_
        refine wr_no rfl rfl rfl rfl ?_
        refine wr_no rfl rfl rfl rfl ?_
        refine wr_y rfl (y_pickT rfl rfl) ?_
        refine wr_nil ?_
        exact ⟨(Sub.to rfl (mb_t (by first | omega | exact ⟨fun h => ⟨(by assumption), h⟩, fun h => h.2⟩ | simp [*])) Sub.nil), fun _ h => h⟩
      ·
        refine wr_yes rfl rfl ?_
        refine wr_y rfl (y_move rfl) ?_
        refine wr_yes rfl rfl ?_
        refine wr_y rfl (y_len Try.underlying30 rfl) ?_
        refine wr_yes rfl rfl ?_
        refine wr_y rfl (y_gt rfl rfl) ?_
        refine wr_y rfl (y_pickF rfl rfl) ?_
        refine wr_nil ?_
        exact ⟨(Sub.to rfl (mb (by first | omega | exact ⟨fun h => ⟨(by assumption), h⟩, fun h => h.2⟩ | simp [*])) Sub.nil), fun _ h => h⟩
    refine wr_y rfl (y_assign rfl) ?_
    refine wr_nil ?_
    refine w_ret ?_
    refine ⟨_, rfl, ?_⟩
    have e := long_take hi0 hi1 hi2 (by assumption)
    rw [e] at hz
    exact congrArg Value.bool (decide_eq_decide.2 (by unfold longP; omega))

theorem known_ext {L TS : List Int} {e : Int} (h : ExtR [[97, 98, 97, 98]] L TS e) : e = 0 ∧ L = [98, 98, 97, 97] ∧ TS = [2] := by
  rcases h with ⟨_, c, _⟩ | ⟨_, _, ⟨w, hw, e⟩, _⟩ | ⟨_, he, _, ⟨T, hp, ho, rfl⟩, rfl⟩
  · exact absurd c (by decide)
  · obtain rfl := List.mem_singleton.1 hw
    simp at e
  · refine ⟨he, ?_, ?_⟩
    · rw [the_order hp ho (m := [(0, 0), (0, 2), (0, 1), (0, 3)]) (by decide +kernel) (by decide +kernel)]
      decide +kernel
    · have h : [([97, 98], 2)] = ringS [[97, 98, 97, 98]] := ringS_one (show List.Perm _ [([97, 98], 2)] by decide) (by decide)
      rw [← h]
      rfl
set_option maxRecDepth 100000 in
set_option maxHeartbeats 800000 in
theorem known24_ct {w : World}  :
    Ct Try.prog 30 #[] w.heap.size w [] (fun v R' => v = .bool true) := by
  refine fn1 Try.func30 rfl rfl rfl ?_
  refine w_seq ?_
  refine w_reg ?_
  refine wr_y rfl (y_assign rfl) ?_
  refine wr_nil ?_
  refine w_seq ?_
  refine w_reg ?_
  refine wr_a rfl (a_litI .u8 [97, 98, 97, 98] Try.underlying22 zs5 rfl rfl rfl) ?_
  rintro _ _ ⟨g_2, rfl, rfl⟩
  refine wr_a rfl (a_mark 0 rfl rfl Try.underlying22 Try.underlying5 rfl rfl) ?_
  rintro _ _ ⟨rfl, rfl⟩
  refine wr_rows (R1 := [⟨5, 1, (some ⟨g_2, 0, none⟩), 4, 4, ints .u8 ([97, 98, 97, 98]), true⟩]) rfl ?_
  refine wr_a rfl (a_lit [Value.slice (some ⟨g_2, 0, none⟩) 4 4] Try.underlying30 zs22 rfl rfl rfl rfl) ?_
  rintro _ _ ⟨g_4, rfl, rfl⟩
  refine wr_a rfl (a_callF en29 rfl (Ct.fresh (fun w hw => extTurn_ct ((rdr 0 rfl) w hw) ((slw_none _ _).snoc ((rdr 1 rfl) w hw) (fun x hx => wf_byte ((by unfold ByteL; decide : ByteL ([97, 98, 97, 98])) x hx)) (by decide)) (by decide)))) ?_
  rintro _ _ ⟨_, rfl, A_5, A_7, c_6, c_8, Lk, TSk, ek, rfl, hxk, rfl⟩
  refine wr_y rfl (y_move rfl) ?_
  refine wr_y rfl (y_extract rfl rfl) ?_
  refine wr_y rfl (y_extract rfl rfl) ?_
  refine wr_y rfl (y_extract rfl rfl) ?_
  refine wr_y rfl (y_assign rfl) ?_
  refine wr_y rfl (y_assign rfl) ?_
  refine wr_y rfl (y_assign rfl) ?_
  refine wr_nil ?_
  refine w_seq ?_
  refine w_reg ?_
  refine wr_y rfl (y_move rfl) ?_
  refine wr_y rfl (Yl.t (y_eq rfl rfl) ((known_ext hxk).1)) ?_
  refine wr_y rfl (y_move rfl) ?_
  refine wr_yes rfl rfl ?_
  refine wr_y rfl (y_move rfl) ?_
  refine wr_yes rfl rfl ?_
  refine wr_y rfl (y_toStr Try.underlying22 Try.underlying5 Try.underlying9 rfl (rdr 0 rfl)) ?_
  refine wr_yes rfl rfl ?_
  refine wr_y rfl (Yl.t (y_eqL (q := [98, 98, 97, 97]) rfl rfl (hxk.bytes (by unfold ByteL; decide)) (by unfold ByteL; decide)) ((known_ext hxk).2.1)) ?_
  refine wr_y rfl (y_pickT rfl rfl) ?_
  refine wr_y rfl (y_move rfl) ?_
  refine wr_yes rfl rfl ?_
  refine wr_y rfl (y_move rfl) ?_
  refine wr_yes rfl rfl ?_
  refine wr_a rfl (a_litI .i64 [2] Try.underlying35 zs3 rfl rfl rfl) ?_
  rintro _ _ ⟨g_12, rfl, rfl⟩
  refine wr_yes rfl rfl ?_
  refine wr_a rfl (a_callF en26 rfl (Ct.quiet (fun w hw => ints4_ct ((rdr 2 rfl) w hw) ((rdr 0 rfl) w hw) (by have := hxk.tlen; simp at this; omega)))) ?_
  rintro _ _ ⟨rfl, rfl⟩
  refine wr_setT 22 rfl ((known_ext hxk).2.2) ?_
  refine wr_y rfl (y_pickT rfl rfl) ?_
  refine wr_y rfl (y_assign rfl) ?_
  refine wr_nil ?_
  refine w_retR (R1 := []) (fun _ h => h.sel [] (by decide) rfl) ?_
  refine ⟨_, rfl, ?_⟩
  rfl

set_option maxRecDepth 100000 in
set_option maxHeartbeats 2000000 in
theorem extRings_ct {w : World} {A_ws : Option Addr} {n_ws c_ws : Nat} {vals_ws : List Value} {ws : List (List Int)} {A_tn : Option Addr} {n_tn c_tn : Nat} {tn : List Int} (h_ws : Rd w A_ws n_ws c_ws 1 vals_ws) (s_ws : SlW .u8 w vals_ws ws) (h_tn : Rd w A_tn n_tn c_tn 1 (ints .i64 tn)) :
    Ct Try.prog 7 #[.slice A_ws n_ws c_ws, .slice A_tn n_tn c_tn] w.heap.size w [] (fun v R' => v = .bool true) := by
  obtain rfl := h_tn.lenI
  obtain rfl : n_ws = ws.length := by have := h_ws.len; have := s_ws.1; omega
  refine fn1 Try.func7 rfl rfl rfl ?_
  have m_ws := h_ws.max
  have m_tn := h_tn.max
  refine w_seq ?_
  refine w_reg ?_
  refine wr_y rfl (y_assign rfl) ?_
  refine wr_nil ?_
  refine w_seq ?_
  refine w_seq ?_
  refine w_reg ?_
  refine wr_y rfl (y_move rfl) ?_
  refine wr_a rfl (a_callF en27 rfl (Ct.quiet (fun w hw => long24_ct ((h_ws.c _) w hw) (s_ws.c hw)))) ?_
  rintro _ _ ⟨rfl, rfl⟩
  refine wr_nil ?_
  refine w_if rfl (fun hc1 => ?_) (fun hc1 => ?_)
  ·
    refine w_seq ?_
    refine w_reg ?_
    refine wr_y rfl (y_assign rfl) ?_
    refine wr_nil ?_
    refine w_retR (R1 := []) (fun _ h => (h.selR (F := []) (F' := []) [] (by decide) rfl).left (X := [])) ?_
    refine ⟨_, rfl, ?_⟩
    rfl
  ·
    have hlg := long_no (M := 60) hc1
    have hNN : (∀ w ∈ ws, w.length ≤ 8000) ∧ ws.length ≤ 100000 := ⟨fun w hw => Nat.le_trans (hlg.2.2 w hw) (by decide), by omega⟩
    have hob := s_ws.okB
    refine w_skip ?_
    refine w_seq ?_
    refine w_reg ?_
    refine wr_sub (R1 := (⟨22, 1, none, 0, 0, [], false⟩ :: [])) (Sub.refl _) (fun _ h => h.nil 22 1) ?_
    refine wr_y rfl (y_assign rfl) ?_
    refine wr_nil ?_
    refine w_seq ?_
    refine w_seq ?_
    refine w_reg ?_
    refine wr_y rfl (y_move rfl) ?_
    refine wr_y rfl (y_len Try.underlying30 rfl) ?_
    refine wr_y rfl (y_subI rfl rfl (by omega)) ?_
    refine wr_y rfl (y_assign rfl) ?_
    refine wr_nil ?_
    refine w_block ?_
    refine w_loop7 (fun (i : Int) (A1 : Option Addr) (n1 : Nat) (c1 : Nat) (vals : List Value) (ls : List (List Int)) (Rs : List Row) => [(0, .slice A_ws ws.length c_ws), (1, .slice A_tn tn.length c_tn), (5, .slice A1 n1 c1), (6, .int .i64 i)]) (fun (i : Int) (A1 : Option Addr) (n1 : Nat) (c1 : Nat) (vals : List Value) (ls : List (List Int)) (Rs : List Row) => (⟨22, 1, A1, n1, c1, vals, false⟩ :: Rs)) (fun (i : Int) (A1 : Option Addr) (n1 : Nat) (c1 : Nat) (vals : List Value) (ls : List (List Int)) (Rs : List Row) => (-1 ≤ i) ∧ (i < ws.length) ∧ (n1 = vals.length) ∧ (vals.length = ls.length) ∧ ((ls.length : Int) = ws.length - 1 - i) ∧ (∀ w', Hp w.heap.size w w' Rs → SlW .u8 w' vals ls) ∧ ((ringsOf ls).Perm (ringsOf (ws.drop (i + 1).toNat))) ∧ ((ls.map List.length).Perm ((ws.drop (i + 1).toNat).map List.length)) ∧ (∀ c ∈ ls, c.length ≤ 60)) (fun (i : Int) (A1 : Option Addr) (n1 : Nat) (c1 : Nat) (vals : List Value) (ls : List (List Int)) (Rs : List Row) => (i + 1).toNat) ?_ ?_
    ·
      exact ⟨((ws.length : Nat) : Int) - 1, none, 0, 0, [], [], [], ⟨(by omega), (by omega), (rfl), (rfl), (by simp only [List.length_nil]; omega), (fun _ _ => slw_none _ _), (by rw [List.drop_of_length_le (by omega)]), (by rw [List.drop_of_length_le (by omega)]), (fun c hc => by cases hc)⟩, (Sub.cons rfl (Sub.cons rfl (Sub.cons rfl (Sub.cons rfl Sub.nil)))), fun _ h => h⟩
    intro i A1 n1 c1 vals ls Rs ⟨him, hi1, hn1, hvl, hln, hsx, hpr, hpl, hsm⟩
    have hwl : 0 ≤ i → (rdl ws i).length ≤ 60 := fun h => hlg.2.2 _ (rdl_mem2 h hi1)
    refine w_seq ?_
    refine w_seq ?_
    refine w_reg ?_
    refine wr_y rfl (y_move rfl) ?_
    refine wr_y rfl (y_ge rfl rfl) ?_
    refine wr_nil ?_
    refine w_if rfl (fun hc2 => ?_) (fun hc2 => ?_)
    ·
      have hi0 : 0 ≤ i := by omega
      have hwl2 := hwl hi0
      refine w_skip ?_
      refine w_seq ?_
      refine w_block ?_
      refine w_seq ?_
      refine w_reg ?_
      refine wr_y rfl (y_move rfl) ?_
      refine wr_y rfl (y_move rfl) ?_
      refine wr_y rfl (y_index1 Try.underlying30 sz22 rfl rfl (h_ws.c _) (by omega) (by omega)) ?_
      obtain ⟨A_1, c_2, hv_3, hr_4, hb_5, mhr_4⟩ := s_ws.at (i := i) (by omega) (by omega)
      refine wr_y rfl (y_ld Try.underlying22 rfl rfl rfl (h_ws.c _) hv_3) ?_
      refine wr_y rfl (y_assign rfl) ?_
      refine wr_nil ?_
      refine w_seq ?_
      refine w_seq ?_
      refine w_reg ?_
      refine wr_y rfl (y_move rfl) ?_
      refine wr_y rfl (y_len Try.underlying22 rfl) ?_
      refine wr_y rfl (y_eq rfl rfl) ?_
      refine wr_nil ?_
      refine w_if rfl (fun hc3 => ?_) (fun hc3 => ?_)
      ·
        refine w_seq ?_
        refine w_reg ?_
        refine wr_y rfl (y_assign rfl) ?_
        refine wr_nil ?_
        refine w_retR (R1 := []) (fun _ h => (h.selR (F := [_]) (F' := []) [] (by decide) rfl).left (X := [])) ?_
        refine ⟨_, rfl, ?_⟩
        rfl
      ·
        refine w_skip ?_
        refine w_seq ?_
        refine w_seq ?_
        refine w_reg ?_
        refine wr_y rfl (y_move rfl) ?_
        refine wr_y rfl (y_move rfl) ?_
        refine wr_y rfl (y_len Try.underlying35 rfl) ?_
        refine wr_y rfl (y_lt rfl rfl) ?_
        refine wr_nil ?_
        refine w_if rfl (fun hc4 => ?_) (fun hc4 => ?_)
        ·
          have hm1 := Int.emod_nonneg ((BitVec.ofInt 64 (rd tn i) &&& 65535#64).toNat : Int) (show ((rdl ws i).length : Int) ≠ 0 by omega)
          have hm2 := Int.emod_lt_of_pos ((BitVec.ofInt 64 (rd tn i) &&& 65535#64).toNat : Int) (show (0 : Int) < (rdl ws i).length by omega)
          refine w_reg ?_
          refine wr_y rfl (y_move rfl) ?_
          refine wr_y rfl (y_move rfl) ?_
          refine wr_y rfl (y_move rfl) ?_
          refine wr_y rfl (y_index1 Try.underlying35 sz3 rfl rfl (h_tn.c _) (by omega) (by omega)) ?_
          refine wr_y rfl (y_ldI Try.underlying3 rfl rfl (h_tn.c _) (by omega) (by omega)) ?_
          refine wr_y rfl (y_andM (m := 65535) rfl rfl) ?_
          refine wr_y rfl (y_move rfl) ?_
          refine wr_y rfl (y_len Try.underlying22 rfl) ?_
          refine wr_y rfl (y_rem rfl rfl (by omega) (by omega)) ?_
          refine wr_a rfl (a_callF en28 rfl (Ct.fresh (fun w hw => turn4_ct ((hr_4.c _) w hw) (by omega) (by omega)))) ?_
          rintro _ _ ⟨_, rfl, A_6, c_7, rfl, rfl⟩
          refine wr_y rfl (y_assign rfl) ?_
          refine wr_nil ?_
          refine w_reg ?_
          refine wr_y rfl (y_move rfl) ?_
          refine wr_y rfl (y_move rfl) ?_
          refine wr_a rfl (a_lit [Value.slice A_6 (((rdl ws i).drop ((((BitVec.ofInt 64 (rd tn i) &&& 65535#64).toNat : Int) % (((rdl ws i).length : Nat) : Int))).toNat ++ (rdl ws i).take ((((BitVec.ofInt 64 (rd tn i) &&& 65535#64).toNat : Int) % (((rdl ws i).length : Nat) : Int))).toNat).length) c_7] Try.underlying30 zs22 rfl rfl rfl rfl) ?_
          rintro _ _ ⟨g_9, rfl, rfl⟩
          refine wr_a rfl (a_append 2 rfl rfl Try.underlying30 zb22 rfl rfl rfl rfl rfl (rdr 0 rfl) (by simp [Value.oneCell']) (by dsimp only; omega)) ?_
          rintro _ _ ⟨A_10, c_11, rfl, rfl⟩
          refine wr_rows (R1 := (⟨22, 1, (some ⟨g_9, 0, none⟩), 1, 1, [Value.slice A_6 (((rdl ws i).drop ((((BitVec.ofInt 64 (rd tn i) &&& 65535#64).toNat : Int) % (((rdl ws i).length : Nat) : Int))).toNat ++ (rdl ws i).take ((((BitVec.ofInt 64 (rd tn i) &&& 65535#64).toNat : Int) % (((rdl ws i).length : Nat) : Int))).toNat).length) c_7], false⟩ :: ⟨5, 1, A_6, ((rdl ws i).drop ((((BitVec.ofInt 64 (rd tn i) &&& 65535#64).toNat : Int) % (((rdl ws i).length : Nat) : Int))).toNat ++ (rdl ws i).take ((((BitVec.ofInt 64 (rd tn i) &&& 65535#64).toNat : Int) % (((rdl ws i).length : Nat) : Int))).toNat).length, c_7, ints .u8 ((rdl ws i).drop ((((BitVec.ofInt 64 (rd tn i) &&& 65535#64).toNat : Int) % (((rdl ws i).length : Nat) : Int))).toNat ++ (rdl ws i).take ((((BitVec.ofInt 64 (rd tn i) &&& 65535#64).toNat : Int) % (((rdl ws i).length : Nat) : Int))).toNat), false⟩ :: ⟨22, 1, A_10, (n1 + 1), c_11, vals ++ ([Value.slice A_6 (((rdl ws i).drop ((((BitVec.ofInt 64 (rd tn i) &&& 65535#64).toNat : Int) % (((rdl ws i).length : Nat) : Int))).toNat ++ (rdl ws i).take ((((BitVec.ofInt 64 (rd tn i) &&& 65535#64).toNat : Int) % (((rdl ws i).length : Nat) : Int))).toNat).length) c_7]), false⟩ :: Rs)) rfl ?_
          refine wr_as (v := .slice A_10 (n1 + 1) c_11) rfl ?_
          refine wr_y rfl (y_assign rfl) ?_
          refine wr_nil ?_
          refine w_reg ?_
          refine wr_y rfl (y_move rfl) ?_
          refine wr_y rfl (y_subI rfl rfl (by omega)) ?_
          refine wr_y rfl (y_assign rfl) ?_
          refine wr_nil ?_
          exact ⟨i - 1, A_10, n1 + 1, c_11, vals ++ ([Value.slice A_6 (((rdl ws i).drop ((((BitVec.ofInt 64 (rd tn i) &&& 65535#64).toNat : Int) % (((rdl ws i).length : Nat) : Int))).toNat ++ (rdl ws i).take ((((BitVec.ofInt 64 (rd tn i) &&& 65535#64).toNat : Int) % (((rdl ws i).length : Nat) : Int))).toNat).length) c_7]), (ls ++ [(rdl ws i).drop ((((BitVec.ofInt 64 (rd tn i) &&& 65535#64).toNat : Int) % (((rdl ws i).length : Nat) : Int))).toNat ++ (rdl ws i).take ((((BitVec.ofInt 64 (rd tn i) &&& 65535#64).toNat : Int) % (((rdl ws i).length : Nat) : Int))).toNat]), (⟨5, 1, A_6, ((rdl ws i).drop ((((BitVec.ofInt 64 (rd tn i) &&& 65535#64).toNat : Int) % (((rdl ws i).length : Nat) : Int))).toNat ++ (rdl ws i).take ((((BitVec.ofInt 64 (rd tn i) &&& 65535#64).toNat : Int) % (((rdl ws i).length : Nat) : Int))).toNat).length, c_7, ints .u8 ((rdl ws i).drop ((((BitVec.ofInt 64 (rd tn i) &&& 65535#64).toNat : Int) % (((rdl ws i).length : Nat) : Int))).toNat ++ (rdl ws i).take ((((BitVec.ofInt 64 (rd tn i) &&& 65535#64).toNat : Int) % (((rdl ws i).length : Nat) : Int))).toNat), false⟩ :: Rs), ⟨(by omega), (by omega), (by rw [List.length_append, hn1]; rfl), (by simp only [List.length_append, List.length_singleton, hvl]), (by rw [List.length_append, List.length_singleton]; omega), (fun w' h => (hsx w' h.tail).snoc (rdr 0 rfl w' h) (fun x hx => wf_byte (ByteL.append ((hob _ (rdl_mem2 hi0 (by omega))).1.drop _) ((hob _ (rdl_mem2 hi0 (by omega))).1.take _) x hx)) (by rw [List.length_append, List.length_drop, List.length_take]; omega)), (other_step (.inr ⟨_, by omega, rfl⟩) hi0 (by omega) hpr), (other_lens (by rw [List.length_append, List.length_drop, List.length_take]; omega) hi0 (by omega) hpl), (fun c hc => (List.mem_append.1 hc).elim (hsm c) fun h => by
                  obtain rfl := List.mem_singleton.1 h
                  rw [List.length_append, List.length_drop, List.length_take]; omega)⟩, (by omega), (Sub.cons rfl (Sub.cons rfl (Sub.cons rfl (Sub.cons rfl Sub.nil)))), fun _ h => h.selR (F := [_, _, _]) (F' := [_, _]) [2, 1] (by decide) rfl⟩
        ·
          refine w_skip ?_
          refine w_reg ?_
          refine wr_y rfl (y_move rfl) ?_
          refine wr_y rfl (y_move rfl) ?_
          refine wr_a rfl (a_lit [Value.slice A_1 ((rdl ws i).length) c_2] Try.underlying30 zs22 rfl rfl rfl rfl) ?_
          rintro _ _ ⟨g_13, rfl, rfl⟩
          refine wr_a rfl (a_append 1 rfl rfl Try.underlying30 zb22 rfl rfl rfl rfl rfl (rdr 0 rfl) (by simp [Value.oneCell']) (by dsimp only; omega)) ?_
          rintro _ _ ⟨A_14, c_15, rfl, rfl⟩
          refine wr_rows (R1 := (⟨22, 1, (some ⟨g_13, 0, none⟩), 1, 1, [Value.slice A_1 ((rdl ws i).length) c_2], false⟩ :: ⟨22, 1, A_14, (n1 + 1), c_15, vals ++ ([Value.slice A_1 ((rdl ws i).length) c_2]), false⟩ :: Rs)) rfl ?_
          refine wr_as (v := .slice A_14 (n1 + 1) c_15) rfl ?_
          refine wr_y rfl (y_assign rfl) ?_
          refine wr_nil ?_
          refine w_reg ?_
          refine wr_y rfl (y_move rfl) ?_
          refine wr_y rfl (y_subI rfl rfl (by omega)) ?_
          refine wr_y rfl (y_assign rfl) ?_
          refine wr_nil ?_
          exact ⟨i - 1, A_14, n1 + 1, c_15, vals ++ ([Value.slice A_1 ((rdl ws i).length) c_2]), (ls ++ [rdl ws i]), Rs, ⟨(by omega), (by omega), (by rw [List.length_append, hn1]; rfl), (by simp only [List.length_append, List.length_singleton, hvl]), (by rw [List.length_append, List.length_singleton]; omega), (fun w' h => (hsx w' h).snoc (hr_4.c _ w' h) (fun x hx => wf_byte ((hob _ (rdl_mem2 hi0 (by omega))).1 x hx)) (by omega)), (other_step (.inl rfl) hi0 (by omega) hpr), (other_lens rfl hi0 (by omega) hpl), (fun c hc => (List.mem_append.1 hc).elim (hsm c) fun h => by
                  obtain rfl := List.mem_singleton.1 h
                  omega)⟩, (by omega), (Sub.cons rfl (Sub.cons rfl (Sub.cons rfl (Sub.cons rfl Sub.nil)))), fun _ h => h.selR (F := [_, _]) (F' := [_]) [1] (by decide) rfl⟩
    ·
      obtain rfl : i = -1 := by omega
      rw [show ((-1 : Int) + 1).toNat = 0 by omega, List.drop_zero] at hpr hpl
      have hlf := lens_flat hpl
      refine w_exit ?_
      refine w_seq ?_
      refine w_reg ?_
      refine wr_y rfl (y_move rfl) ?_
      refine wr_a rfl (a_callF en29 rfl (Ct.fresh (fun w hw => extTurn_ct ((h_ws.c _) w hw) (s_ws.c hw) hNN))) ?_
      rintro _ _ ⟨_, rfl, A_16, A_18, c_17, c_19, L1, TS1, e1, rfl, hx1, rfl⟩
      refine wr_y rfl (y_move rfl) ?_
      refine wr_y rfl (y_extract rfl rfl) ?_
      refine wr_y rfl (y_extract rfl rfl) ?_
      refine wr_y rfl (y_extract rfl rfl) ?_
      refine wr_y rfl (y_assign rfl) ?_
      refine wr_y rfl (y_assign rfl) ?_
      refine wr_y rfl (y_assign rfl) ?_
      refine wr_nil ?_
      refine w_seq ?_
      refine w_reg ?_
      refine wr_y rfl (y_move rfl) ?_
      refine wr_a rfl (a_callF en29 rfl (Ct.fresh (fun w hw => extTurn_ct ((rdr 2 rfl) w hw) (hsx w (Hp.right (R' := [_, _, _]) hw)) ⟨fun w hw => Nat.le_trans (hsm w hw) (by decide), by omega⟩))) ?_
      rintro _ _ ⟨_, rfl, A_22, A_24, c_23, c_25, L2, TS2, e2, rfl, hx2, rfl⟩
      refine wr_y rfl (y_move rfl) ?_
      refine wr_y rfl (y_extract rfl rfl) ?_
      refine wr_y rfl (y_extract rfl rfl) ?_
      refine wr_y rfl (y_extract rfl rfl) ?_
      refine wr_y rfl (y_assign rfl) ?_
      refine wr_y rfl (y_assign rfl) ?_
      refine wr_y rfl (y_assign rfl) ?_
      refine wr_nil ?_
      refine w_seq ?_
      refine w_reg ?_
      refine wr_y rfl (y_move rfl) ?_
      refine wr_y rfl (y_move rfl) ?_
      refine wr_y rfl (Yl.t (y_eq rfl rfl) ((hx1.same hx2 (fun w hw => (hob w hw).1) hlf.1 hlf.2.1 hlf.2.2 hpr).1.symm)) ?_
      refine wr_y rfl (y_move rfl) ?_
      refine wr_yes rfl rfl ?_
      refine wr_y rfl (y_move rfl) ?_
      refine wr_yes rfl rfl ?_
      refine wr_y rfl (y_toStr Try.underlying22 Try.underlying5 Try.underlying9 rfl (rdr 2 rfl)) ?_
      refine wr_yes rfl rfl ?_
      refine wr_y rfl (y_move rfl) ?_
      refine wr_yes rfl rfl ?_
      refine wr_y rfl (y_toStr Try.underlying22 Try.underlying5 Try.underlying9 rfl (rdr 0 rfl)) ?_
      refine wr_yes rfl rfl ?_
      refine wr_y rfl (Yl.t (y_eqL rfl rfl (hx1.bytes fun w hw => (hob w hw).1) (by rw [(hx1.same hx2 (fun w hw => (hob w hw).1) hlf.1 hlf.2.1 hlf.2.2 hpr).2.1]; exact hx1.bytes fun w hw => (hob w hw).1)) ((hx1.same hx2 (fun w hw => (hob w hw).1) hlf.1 hlf.2.1 hlf.2.2 hpr).2.1.symm)) ?_
      refine wr_y rfl (y_pickT rfl rfl) ?_
      refine wr_y rfl (y_move rfl) ?_
      refine wr_yes rfl rfl ?_
      refine wr_y rfl (y_move rfl) ?_
      refine wr_yes rfl rfl ?_
      refine wr_y rfl (y_move rfl) ?_
      refine wr_yes rfl rfl ?_
      refine wr_a rfl (a_callF en26 rfl (Ct.quiet (fun w hw => ints4_ct ((rdr 3 rfl) w hw) ((rdr 1 rfl) w hw) (by have := hx1.tlen; omega)))) ?_
      rintro _ _ ⟨rfl, rfl⟩
      refine wr_setT 73 rfl ((hx1.same hx2 (fun w hw => (hob w hw).1) hlf.1 hlf.2.1 hlf.2.2 hpr).2.2.symm) ?_
      refine wr_y rfl (y_pickT rfl rfl) ?_
      refine wr_y rfl (y_move rfl) ?_
      refine wr_yes rfl rfl ?_
      refine wr_a rfl (a_callF en30 rfl (Ct.quiet (fun w hw => known24_ct))) ?_
      rintro _ _ ⟨rfl, rfl⟩
      refine wr_y rfl (y_pickT rfl rfl) ?_
      refine wr_y rfl (y_assign rfl) ?_
      refine wr_nil ?_
      refine w_retR (R1 := []) (fun _ h => (h.selR (F := [_, _, _, _, _]) (F' := []) [] (by decide) rfl).left (X := [])) ?_
      refine ⟨_, rfl, ?_⟩
      rfl

theorem rep7_flat (k : Nat) : (List.replicate k [(7 : Int)]).flatten.length = k := by
  induction k with
  | zero => rfl
  | succ k ih => rw [List.replicate_succ, List.flatten_cons, List.length_append, ih]; simp; omega
theorem many_len {ws : List (List Int)} {L TS : List Int} {e : Int} (h : ExtR ws L TS e) (he : e = 0) : TS.length = ws.length ∧ ¬ emptyP ws := ⟨(h.all he).1, fun ⟨w, hw, e0⟩ => by have := (h.all he).2 w hw; omega⟩
theorem many_app {ls : List (List Int)} : emptyP (ls ++ [[]]) := ⟨[], by simp, rfl⟩
theorem flat_app {ls : List (List Int)} : (ls ++ [([] : List Int)]).flatten.length = ls.flatten.length := by simp
set_option maxRecDepth 100000 in
theorem extBackLong_ct {w : World} {A_tm : Option Addr} {n_tm c_tm : Nat} {tm : List Int} (h_tm : Rd w A_tm n_tm c_tm 1 (ints .i64 tm)) (hN : 1000 < tm.length) :
    Ct Try.prog 34 #[.slice none 0 0, .slice A_tm n_tm c_tm] w.heap.size w [] (fun v R' => v = .tuple #[.slice none 0 0, .int .i64 2]) := by
  obtain rfl := h_tm.lenI
  refine fn2 Try.func34 rfl rfl rfl ?_
  have m_tm := h_tm.max
  refine w_seq ?_
  refine w_reg ?_
  refine wr_y rfl (y_assign rfl) ?_
  refine wr_y rfl (y_assign rfl) ?_
  refine wr_nil ?_
  refine w_seq ?_
  refine w_seq ?_
  refine w_reg ?_
  refine wr_y rfl (y_move rfl) ?_
  refine wr_y rfl (y_len Try.underlying22 rfl) ?_
  refine wr_y rfl (Yl.f (y_gt rfl rfl) (by omega)) ?_
  refine wr_y rfl (y_move rfl) ?_
  refine wr_yes rfl rfl ?_
  refine wr_y rfl (y_move rfl) ?_
  refine wr_yes rfl rfl ?_
  refine wr_y rfl (y_len Try.underlying35 rfl) ?_
  refine wr_yes rfl rfl ?_
  refine wr_y rfl (Yl.t (y_gt rfl rfl) (by omega)) ?_
  refine wr_y rfl (y_pickF rfl rfl) ?_
  refine wr_nil ?_
  refine w_true rfl ?_
  refine w_seq ?_
  refine w_reg ?_
  refine wr_y rfl (y_assign rfl) ?_
  refine wr_y rfl (y_assign rfl) ?_
  refine wr_nil ?_
  refine w_ret ?_
  refine ⟨_, _, rfl, rfl, ?_⟩
  rfl

set_option maxRecDepth 100000 in
set_option maxHeartbeats 4000000 in
theorem extMany_ct {w : World} {n : Int} {em : Prop} [Decidable em] :
    Ct Try.prog 13 #[.int .i64 n, .bool (decide em)] w.heap.size w [] (fun v R' => v = .bool true) := by
  refine fn1 Try.func13 rfl rfl rfl ?_
  refine w_seq ?_
  refine w_reg ?_
  refine wr_y rfl (y_assign rfl) ?_
  refine wr_nil ?_
  refine w_seq ?_
  refine w_seq ?_
  refine w_reg ?_
  refine wr_y rfl (y_move rfl) ?_
  refine wr_y rfl (y_lt rfl rfl) ?_
  refine wr_y rfl (y_move rfl) ?_
  refine wr_mid 3 [(0, .int .i64 n), (1, .bool (decide em)), (18, .bool (decide ((n < 0) ∨ (1001 < n))))] ([]) ?_ ?_
  ·
    refine wr_case 15 rfl (fun hc1 => ?_) (fun hc1 => ?_)
    ·
      refine wr_no rfl rfl rfl rfl ?_
      refine wr_no rfl rfl rfl rfl ?_
      refine wr_y rfl (y_pickT rfl rfl) ?_
      refine wr_nil ?_
      exact ⟨(Sub.cons rfl (Sub.cons rfl (Sub.to rfl (mb_t (by first | omega | exact ⟨fun h => ⟨(by assumption), h⟩, fun h => h.2⟩ | simp [*])) Sub.nil))), fun _ h => h⟩
    ·
      refine wr_yes rfl rfl ?_
      refine wr_y rfl (y_move rfl) ?_
      refine wr_yes rfl rfl ?_
      refine wr_y rfl (y_gt rfl rfl) ?_
      refine wr_y rfl (y_pickF rfl rfl) ?_
      refine wr_nil ?_
      exact ⟨(Sub.cons rfl (Sub.cons rfl (Sub.to rfl (mb (by first | omega | exact ⟨fun h => ⟨(by assumption), h⟩, fun h => h.2⟩ | simp [*])) Sub.nil))), fun _ h => h⟩
  refine wr_y rfl (y_move rfl) ?_
  refine wr_mid 7 [(0, .int .i64 n), (1, .bool (decide em)), (26, .bool (decide (((n < 0) ∨ (1001 < n)) ∨ ((20 < n) ∧ (n < 1001)))))] ([]) ?_ ?_
  ·
    refine wr_case 19 rfl (fun hc2 => ?_) (fun hc2 => ?_)
    ·
      refine wr_no rfl rfl rfl rfl ?_
      refine wr_no rfl rfl rfl rfl ?_
      refine wr_no rfl rfl rfl rfl ?_
      refine wr_nou rfl rfl rfl ?_
      refine wr_nou rfl rfl rfl ?_
      refine wr_no rfl rfl rfl rfl ?_
      refine wr_y rfl (y_pickT rfl rfl) ?_
      refine wr_nil ?_
      exact ⟨(Sub.cons rfl (Sub.cons rfl (Sub.to rfl (mb_t (by first | omega | exact ⟨fun h => ⟨(by assumption), h⟩, fun h => h.2⟩ | simp [*])) Sub.nil))), fun _ h => h⟩
    ·
      refine wr_yes rfl rfl ?_
      refine wr_y rfl (y_move rfl) ?_
      refine wr_yes rfl rfl ?_
      refine wr_y rfl (y_gt rfl rfl) ?_
      refine wr_yes rfl rfl ?_
      refine wr_y rfl (y_move rfl) ?_
      refine wr_mid 3 [(0, .int .i64 n), (1, .bool (decide em)), (19, .bool false), (25, .bool (decide ((20 < n) ∧ (n < 1001))))] ([]) ?_ ?_
      ·
        refine wr_case 22 rfl (fun hc3 => ?_) (fun hc3 => ?_)
        ·
          refine wr_yes rfl rfl ?_
          refine wr_y rfl (y_move rfl) ?_
          refine wr_yes rfl rfl ?_
          refine wr_y rfl (y_lt rfl rfl) ?_
          refine wr_yes rfl rfl ?_
          refine wr_y rfl (y_pickT rfl rfl) ?_
          refine wr_nil ?_
          exact ⟨(Sub.cons rfl (Sub.cons rfl (Sub.cons rfl (Sub.to rfl (mb (by first | omega | exact ⟨fun h => ⟨(by assumption), h⟩, fun h => h.2⟩ | simp [*])) Sub.nil)))), fun _ h => h⟩
        ·
          refine wr_no rfl rfl rfl rfl ?_
          refine wr_no rfl rfl rfl rfl ?_
          refine wr_yes rfl rfl ?_
          refine wr_y rfl (y_pickF rfl rfl) ?_
          refine wr_nil ?_
          exact ⟨(Sub.cons rfl (Sub.cons rfl (Sub.cons rfl (Sub.to rfl (mb_f (by first | omega | exact ⟨fun h => ⟨(by assumption), h⟩, fun h => h.2⟩ | simp [*])) Sub.nil)))), fun _ h => h⟩
      refine wr_y rfl (y_pickF rfl rfl) ?_
      refine wr_nil ?_
      exact ⟨(Sub.cons rfl (Sub.cons rfl (Sub.to rfl (mb (by first | omega | exact ⟨fun h => ⟨(by assumption), h⟩, fun h => h.2⟩ | simp [*])) Sub.nil))), fun _ h => h⟩
  refine wr_nil ?_
  refine w_if rfl (fun hc4 => ?_) (fun hc4 => ?_)
  ·
    refine w_seq ?_
    refine w_reg ?_
    refine wr_y rfl (y_assign rfl) ?_
    refine wr_nil ?_
    refine w_retR (R1 := []) (fun _ h => (h.selR (F := []) (F' := []) [] (by decide) rfl).left (X := [])) ?_
    refine ⟨_, rfl, ?_⟩
    rfl
  ·
    refine w_skip ?_
    refine w_seq ?_
    refine w_reg ?_
    refine wr_sub (R1 := (⟨22, 1, none, 0, 0, [], false⟩ :: [])) (Sub.refl _) (fun _ h => h.nil 22 1) ?_
    refine wr_y rfl (y_assign rfl) ?_
    refine wr_nil ?_
    refine w_seq ?_
    refine w_seq ?_
    refine w_reg ?_
    refine wr_y rfl (y_assign rfl) ?_
    refine wr_nil ?_
    refine w_block ?_
    refine w_loop7 (fun (i : Int) (A1 : Option Addr) (n1 : Nat) (c1 : Nat) (vals : List Value) (ls : List (List Int)) (Rs : List Row) => [(0, .int .i64 n), (1, .bool (decide em)), (5, .slice A1 n1 c1), (6, .int .i64 i)]) (fun (i : Int) (A1 : Option Addr) (n1 : Nat) (c1 : Nat) (vals : List Value) (ls : List (List Int)) (Rs : List Row) => (⟨22, 1, A1, n1, c1, vals, false⟩ :: Rs)) (fun (i : Int) (A1 : Option Addr) (n1 : Nat) (c1 : Nat) (vals : List Value) (ls : List (List Int)) (Rs : List Row) => (0 ≤ i) ∧ (i ≤ n) ∧ (n1 = vals.length) ∧ (SlR .u8 Rs vals ls) ∧ (ls = List.replicate i.toNat [7])) (fun (i : Int) (A1 : Option Addr) (n1 : Nat) (c1 : Nat) (vals : List Value) (ls : List (List Int)) (Rs : List Row) => (n - i).toNat) ?_ ?_
    ·
      exact ⟨0, none, 0, 0, [], [], [], ⟨(by omega), (by omega), (rfl), (SlR.nilR _ _), (rfl)⟩, (Sub.cons rfl (Sub.cons rfl (Sub.cons rfl (Sub.cons rfl Sub.nil)))), fun _ h => h⟩
    intro i A1 n1 c1 vals ls Rs ⟨hi0, hi1, hn1, hsl, hls⟩
    have hsn := hsl.1
    have hll : ls.length = i.toNat := by rw [hls, List.length_replicate]
    refine w_seq ?_
    refine w_seq ?_
    refine w_reg ?_
    refine wr_y rfl (y_move rfl) ?_
    refine wr_y rfl (y_move rfl) ?_
    refine wr_y rfl (y_lt rfl rfl) ?_
    refine wr_nil ?_
    refine w_if rfl (fun hc5 => ?_) (fun hc5 => ?_)
    ·
      refine w_skip ?_
      refine w_seq ?_
      refine w_block ?_
      refine w_reg ?_
      refine wr_y rfl (y_move rfl) ?_
      refine wr_a rfl (a_litI .u8 [7] Try.underlying22 zs5 rfl rfl rfl) ?_
      rintro _ _ ⟨g_2, rfl, rfl⟩
      refine wr_a rfl (a_lit [Value.slice (some ⟨g_2, 0, none⟩) 1 1] Try.underlying30 zs22 rfl rfl rfl rfl) ?_
      rintro _ _ ⟨g_4, rfl, rfl⟩
      refine wr_a rfl (a_append 2 rfl rfl Try.underlying30 zb22 rfl rfl rfl rfl rfl (rdr 0 rfl) (by simp [Value.oneCell']) (by dsimp only; omega)) ?_
      rintro _ _ ⟨A_5, c_6, rfl, rfl⟩
      refine wr_rows (R1 := (⟨22, 1, (some ⟨g_4, 0, none⟩), 1, 1, [Value.slice (some ⟨g_2, 0, none⟩) 1 1], false⟩ :: ⟨5, 1, (some ⟨g_2, 0, none⟩), 1, 1, ints .u8 ([7]), false⟩ :: ⟨22, 1, A_5, (n1 + 1), c_6, vals ++ ([Value.slice (some ⟨g_2, 0, none⟩) 1 1]), false⟩ :: Rs)) rfl ?_
      refine wr_as (v := .slice A_5 (n1 + 1) c_6) rfl ?_
      refine wr_y rfl (y_assign rfl) ?_
      refine wr_nil ?_
      refine w_reg ?_
      refine wr_y rfl (y_move rfl) ?_
      refine wr_y rfl (y_addI rfl rfl (by omega)) ?_
      refine wr_y rfl (y_assign rfl) ?_
      refine wr_nil ?_
      exact ⟨i + 1, A_5, n1 + 1, c_6, vals ++ ([Value.slice (some ⟨g_2, 0, none⟩) 1 1]), (ls ++ [[7]]), (⟨5, 1, (some ⟨g_2, 0, none⟩), 1, 1, ints .u8 ([7]), false⟩ :: Rs), ⟨(by omega), (by omega), (by rw [List.length_append, hn1]; rfl), (hsl.snoc rfl), (by rw [show (i + 1).toNat = i.toNat + 1 by omega, List.replicate_succ', hls])⟩, (by omega), (Sub.cons rfl (Sub.cons rfl (Sub.cons rfl (Sub.cons rfl Sub.nil)))), fun _ h => h.selR (F := [_, _, _]) (F' := [_, _]) [2, 1] (by decide) rfl⟩
    ·
      obtain rfl : i = n := by omega
      have hsb : OkB ls := fun l hl => by rw [hls] at hl; obtain ⟨_, rfl⟩ := List.mem_replicate.1 hl; exact ⟨by unfold ByteL; decide, by decide⟩
      have hsz : ls.flatten.length = ls.length := by rw [hls, rep7_flat, List.length_replicate]
      have hnm : ¬ emptyP ls := fun ⟨w, hw, e⟩ => by rw [hls] at hw; obtain ⟨_, rfl⟩ := List.mem_replicate.1 hw; simp at e
      have hs8 : ∀ w ∈ ls, w.length ≤ 8000 := fun w hw => by rw [hls] at hw; obtain ⟨_, rfl⟩ := List.mem_replicate.1 hw; decide
      refine w_exit ?_
      refine w_seq ?_
      refine w_seq ?_
      refine w_reg ?_
      refine wr_y rfl (y_move rfl) ?_
      refine wr_nil ?_
      refine w_if rfl (fun hc6 => ?_) (fun hc6 => ?_)
      ·
        refine w_reg ?_
        refine wr_y rfl (y_move rfl) ?_
        refine wr_a rfl (a_lit [Value.slice none 0 0] Try.underlying30 zs22 rfl rfl rfl rfl) ?_
        rintro _ _ ⟨g_8, rfl, rfl⟩
        refine wr_a rfl (a_append 1 rfl rfl Try.underlying30 zb22 rfl rfl rfl rfl rfl (rdr 0 rfl) (by simp [Value.oneCell']) (by dsimp only; omega)) ?_
        rintro _ _ ⟨A_9, c_10, rfl, rfl⟩
        refine wr_rows (R1 := (⟨22, 1, (some ⟨g_8, 0, none⟩), 1, 1, [Value.slice none 0 0], false⟩ :: ⟨22, 1, A_9, (n1 + 1), c_10, vals ++ ([Value.slice none 0 0]), false⟩ :: Rs)) rfl ?_
        refine wr_as (v := .slice A_9 (n1 + 1) c_10) rfl ?_
        refine wr_y rfl (y_assign rfl) ?_
        refine wr_nil ?_
        refine w_seq ?_
        refine w_reg ?_
        refine wr_y rfl (y_move rfl) ?_
        refine wr_a rfl (a_callF en29 rfl (Ct.fresh (fun w hw => extTurn_ct ((rdr 1 rfl) w hw) ((hsl.push rfl (fun _ _ _ _ => rd_none .u8)).slw (OkB.app hsb (fun l hl => by obtain rfl := List.mem_singleton.1 hl; exact ⟨ByteL.nil, by decide⟩)) (Hp.right (R' := [_, _]) hw)) ⟨fun w hw => by first | exact hs8 w hw | exact (List.mem_append.1 hw).elim (hs8 w) (fun h => by obtain rfl := List.mem_singleton.1 h; decide), by first | omega | (rw [List.length_append, List.length_singleton]; omega)⟩))) ?_
        rintro _ _ ⟨_, rfl, A_11, A_13, c_12, c_14, L1, TS1, e1, rfl, hx1, rfl⟩
        refine wr_y rfl (y_move rfl) ?_
        refine wr_y rfl (y_extract rfl rfl) ?_
        refine wr_y rfl (y_extract rfl rfl) ?_
        refine wr_y rfl (y_extract rfl rfl) ?_
        refine wr_y rfl (y_assign rfl) ?_
        refine wr_y rfl (y_assign rfl) ?_
        refine wr_y rfl (y_assign rfl) ?_
        refine wr_nil ?_
        refine w_seq ?_
        refine w_reg ?_
        refine wr_y rfl (y_assign rfl) ?_
        refine wr_nil ?_
        refine w_seq ?_
        refine w_seq ?_
        refine w_reg ?_
        refine wr_y rfl (y_move rfl) ?_
        refine wr_nil ?_
        refine w_if rfl (fun hc7 => ?_) (fun hc7 => ?_)
        ·
          refine w_reg ?_
          refine wr_y rfl (y_assign rfl) ?_
          refine wr_nil ?_
          refine w_seq ?_
          refine w_seq ?_
          refine w_reg ?_
          refine wr_y rfl (y_move rfl) ?_
          refine wr_y rfl (y_len Try.underlying30 rfl) ?_
          refine wr_y rfl (y_gt rfl rfl) ?_
          refine wr_nil ?_
          refine w_if rfl (fun hc8 => ?_) (fun hc8 => ?_)
          ·
            refine w_reg ?_
            refine wr_y rfl (y_assign rfl) ?_
            refine wr_nil ?_
            refine w_seq ?_
            refine w_reg ?_
            refine wr_a rfl (a_makeN Try.underlying35 zb3 rfl rfl (by omega) (by omega) (by omega)) ?_
            rintro _ _ ⟨g_18, rfl, rfl⟩
            refine wr_rows (R1 := (⟨3, 1, (some ⟨g_18, 0, none⟩), ((1001 : Int).toNat), ((1001 : Int).toNat), ints .i64 (List.replicate ((1001 : Int).toNat) (0 : Int)), false⟩ :: ⟨5, 1, A_11, L1.length, c_12, ints .u8 L1, false⟩ :: ⟨3, 1, A_13, TS1.length, c_14, ints .i64 TS1, false⟩ :: ⟨22, 1, (some ⟨g_8, 0, none⟩), 1, 1, [Value.slice none 0 0], false⟩ :: ⟨22, 1, A_9, (n1 + 1), c_10, vals ++ ([Value.slice none 0 0]), false⟩ :: Rs)) rfl ?_
            refine wr_as (v := .slice (some ⟨g_18, 0, none⟩) ((1001 : Int).toNat) ((1001 : Int).toNat)) rfl ?_
            refine wr_a rfl (a_callF en34 rfl (Ct.quiet (fun w hw => extBackLong_ct ((rdr 0 rfl) w hw) (by rw [List.length_replicate]; decide)))) ?_
            rintro _ _ ⟨rfl, rfl⟩
            refine wr_y rfl (y_move rfl) ?_
            refine wr_y rfl (y_extract rfl rfl) ?_
            refine wr_y rfl (y_extract rfl rfl) ?_
            refine wr_y rfl (y_assign rfl) ?_
            refine wr_y rfl (y_assign rfl) ?_
            refine wr_nil ?_
            refine w_seq ?_
            refine w_reg ?_
            refine wr_y rfl (y_move rfl) ?_
            refine wr_y rfl (y_move rfl) ?_
            refine wr_y rfl (Yl.t (y_eq rfl rfl) (by first | exact absurd ‹em› ‹¬ em› | exact (hx1.code (by rw [flat_app]; omega)).1 (by simp only [List.length_append, List.length_singleton]; omega) | exact (hx1.code (by rw [flat_app]; omega)).2.1 (by simp only [List.length_append, List.length_singleton]; omega) many_app | exact (hx1.code (by omega)).1 (by omega) | exact (hx1.code (by omega)).2.2 (by omega) hnm)) ?_
            refine wr_y rfl (y_move rfl) ?_
            refine wr_yes rfl rfl ?_
            refine wr_y rfl (y_move rfl) ?_
            refine (Classical.em (e1 ≠ 0)).elim (fun hz => ?_) (fun hz => ?_)
            ·
              refine wr_yes rfl rfl ?_
              refine wr_y rfl (Yl.t (y_ne rfl rfl) (hz)) ?_
              refine wr_yes rfl rfl ?_
              refine wr_y rfl (y_move rfl) ?_
              refine wr_no rfl rfl rfl rfl ?_
              refine wr_no rfl rfl rfl rfl ?_
              refine wr_no rfl rfl rfl rfl ?_
              refine wr_no rfl rfl rfl rfl ?_
              refine wr_yes rfl rfl ?_
              refine wr_y rfl (y_pickT rfl rfl) ?_
              refine wr_y rfl (y_pickT rfl rfl) ?_
              refine wr_y rfl (y_move rfl) ?_
              refine wr_yes rfl rfl ?_
              refine wr_y rfl (y_move rfl) ?_
              refine wr_yes rfl rfl ?_
              refine wr_y rfl (Yl.t (y_eq rfl rfl) (rfl)) ?_
              refine wr_y rfl (y_pickT rfl rfl) ?_
              refine wr_y rfl (y_move rfl) ?_
              refine wr_yes rfl rfl ?_
              refine wr_a rfl (a_callF en30 rfl (Ct.quiet (fun w hw => known24_ct))) ?_
              rintro _ _ ⟨rfl, rfl⟩
              refine wr_y rfl (y_pickT rfl rfl) ?_
              refine wr_y rfl (y_assign rfl) ?_
              refine wr_nil ?_
              refine w_retR (R1 := []) (fun _ h => (h.selR (F := [_, _, _, _, _]) (F' := []) [] (by decide) rfl).left (X := [])) ?_
              refine ⟨_, rfl, ?_⟩
              rfl
            ·
              refine wr_yes rfl rfl ?_
              refine wr_y rfl (Yl.f (y_ne rfl rfl) (hz)) ?_
              refine wr_yes rfl rfl ?_
              refine wr_y rfl (y_move rfl) ?_
              refine wr_yes rfl rfl ?_
              refine wr_y rfl (y_move rfl) ?_
              refine wr_yes rfl rfl ?_
              refine wr_y rfl (y_len Try.underlying35 rfl) ?_
              refine wr_yes rfl rfl ?_
              refine wr_y rfl (y_move rfl) ?_
              refine wr_yes rfl rfl ?_
              refine wr_y rfl (Yl.t (y_eq rfl rfl) (by have q := many_len hx1 (by omega); first | exact absurd ‹em› ‹¬ em› | exact absurd many_app q.2 | (have q1 := q.1; omega))) ?_
              refine wr_yes rfl rfl ?_
              refine wr_y rfl (y_pickF rfl rfl) ?_
              refine wr_y rfl (y_pickT rfl rfl) ?_
              refine wr_y rfl (y_move rfl) ?_
              refine wr_yes rfl rfl ?_
              refine wr_y rfl (y_move rfl) ?_
              refine wr_yes rfl rfl ?_
              refine wr_y rfl (Yl.t (y_eq rfl rfl) (rfl)) ?_
              refine wr_y rfl (y_pickT rfl rfl) ?_
              refine wr_y rfl (y_move rfl) ?_
              refine wr_yes rfl rfl ?_
              refine wr_a rfl (a_callF en30 rfl (Ct.quiet (fun w hw => known24_ct))) ?_
              rintro _ _ ⟨rfl, rfl⟩
              refine wr_y rfl (y_pickT rfl rfl) ?_
              refine wr_y rfl (y_assign rfl) ?_
              refine wr_nil ?_
              refine w_retR (R1 := []) (fun _ h => (h.selR (F := [_, _, _, _, _]) (F' := []) [] (by decide) rfl).left (X := [])) ?_
              refine ⟨_, rfl, ?_⟩
              rfl
          ·
            refine w_skip ?_
            refine w_seq ?_
            refine w_reg ?_
            refine wr_a rfl (a_makeN Try.underlying35 zb3 rfl rfl (by omega) (by omega) (by omega)) ?_
            rintro _ _ ⟨g_20, rfl, rfl⟩
            refine wr_rows (R1 := (⟨3, 1, (some ⟨g_20, 0, none⟩), ((1001 : Int).toNat), ((1001 : Int).toNat), ints .i64 (List.replicate ((1001 : Int).toNat) (0 : Int)), false⟩ :: ⟨5, 1, A_11, L1.length, c_12, ints .u8 L1, false⟩ :: ⟨3, 1, A_13, TS1.length, c_14, ints .i64 TS1, false⟩ :: ⟨22, 1, (some ⟨g_8, 0, none⟩), 1, 1, [Value.slice none 0 0], false⟩ :: ⟨22, 1, A_9, (n1 + 1), c_10, vals ++ ([Value.slice none 0 0]), false⟩ :: Rs)) rfl ?_
            refine wr_as (v := .slice (some ⟨g_20, 0, none⟩) ((1001 : Int).toNat) ((1001 : Int).toNat)) rfl ?_
            refine wr_a rfl (a_callF en34 rfl (Ct.quiet (fun w hw => extBackLong_ct ((rdr 0 rfl) w hw) (by rw [List.length_replicate]; decide)))) ?_
            rintro _ _ ⟨rfl, rfl⟩
            refine wr_y rfl (y_move rfl) ?_
            refine wr_y rfl (y_extract rfl rfl) ?_
            refine wr_y rfl (y_extract rfl rfl) ?_
            refine wr_y rfl (y_assign rfl) ?_
            refine wr_y rfl (y_assign rfl) ?_
            refine wr_nil ?_
            refine w_seq ?_
            refine w_reg ?_
            refine wr_y rfl (y_move rfl) ?_
            refine wr_y rfl (y_move rfl) ?_
            refine wr_y rfl (Yl.t (y_eq rfl rfl) (by first | exact absurd ‹em› ‹¬ em› | exact (hx1.code (by rw [flat_app]; omega)).1 (by simp only [List.length_append, List.length_singleton]; omega) | exact (hx1.code (by rw [flat_app]; omega)).2.1 (by simp only [List.length_append, List.length_singleton]; omega) many_app | exact (hx1.code (by omega)).1 (by omega) | exact (hx1.code (by omega)).2.2 (by omega) hnm)) ?_
            refine wr_y rfl (y_move rfl) ?_
            refine wr_yes rfl rfl ?_
            refine wr_y rfl (y_move rfl) ?_
            refine (Classical.em (e1 ≠ 0)).elim (fun hz => ?_) (fun hz => ?_)
            ·
              refine wr_yes rfl rfl ?_
              refine wr_y rfl (Yl.t (y_ne rfl rfl) (hz)) ?_
              refine wr_yes rfl rfl ?_
              refine wr_y rfl (y_move rfl) ?_
              refine wr_no rfl rfl rfl rfl ?_
              refine wr_no rfl rfl rfl rfl ?_
              refine wr_no rfl rfl rfl rfl ?_
              refine wr_no rfl rfl rfl rfl ?_
              refine wr_yes rfl rfl ?_
              refine wr_y rfl (y_pickT rfl rfl) ?_
              refine wr_y rfl (y_pickT rfl rfl) ?_
              refine wr_y rfl (y_move rfl) ?_
              refine wr_yes rfl rfl ?_
              refine wr_y rfl (y_move rfl) ?_
              refine wr_yes rfl rfl ?_
              refine wr_y rfl (Yl.t (y_eq rfl rfl) (rfl)) ?_
              refine wr_y rfl (y_pickT rfl rfl) ?_
              refine wr_y rfl (y_move rfl) ?_
              refine wr_yes rfl rfl ?_
              refine wr_a rfl (a_callF en30 rfl (Ct.quiet (fun w hw => known24_ct))) ?_
              rintro _ _ ⟨rfl, rfl⟩
              refine wr_y rfl (y_pickT rfl rfl) ?_
              refine wr_y rfl (y_assign rfl) ?_
              refine wr_nil ?_
              refine w_retR (R1 := []) (fun _ h => (h.selR (F := [_, _, _, _, _]) (F' := []) [] (by decide) rfl).left (X := [])) ?_
              refine ⟨_, rfl, ?_⟩
              rfl
            ·
              refine wr_yes rfl rfl ?_
              refine wr_y rfl (Yl.f (y_ne rfl rfl) (hz)) ?_
              refine wr_yes rfl rfl ?_
              refine wr_y rfl (y_move rfl) ?_
              refine wr_yes rfl rfl ?_
              refine wr_y rfl (y_move rfl) ?_
              refine wr_yes rfl rfl ?_
              refine wr_y rfl (y_len Try.underlying35 rfl) ?_
              refine wr_yes rfl rfl ?_
              refine wr_y rfl (y_move rfl) ?_
              refine wr_yes rfl rfl ?_
              refine wr_y rfl (Yl.t (y_eq rfl rfl) (by have q := many_len hx1 (by omega); first | exact absurd ‹em› ‹¬ em› | exact absurd many_app q.2 | (have q1 := q.1; omega))) ?_
              refine wr_yes rfl rfl ?_
              refine wr_y rfl (y_pickF rfl rfl) ?_
              refine wr_y rfl (y_pickT rfl rfl) ?_
              refine wr_y rfl (y_move rfl) ?_
              refine wr_yes rfl rfl ?_
              refine wr_y rfl (y_move rfl) ?_
              refine wr_yes rfl rfl ?_
              refine wr_y rfl (Yl.t (y_eq rfl rfl) (rfl)) ?_
              refine wr_y rfl (y_pickT rfl rfl) ?_
              refine wr_y rfl (y_move rfl) ?_
              refine wr_yes rfl rfl ?_
              refine wr_a rfl (a_callF en30 rfl (Ct.quiet (fun w hw => known24_ct))) ?_
              rintro _ _ ⟨rfl, rfl⟩
              refine wr_y rfl (y_pickT rfl rfl) ?_
              refine wr_y rfl (y_assign rfl) ?_
              refine wr_nil ?_
              refine w_retR (R1 := []) (fun _ h => (h.selR (F := [_, _, _, _, _]) (F' := []) [] (by decide) rfl).left (X := [])) ?_
              refine ⟨_, rfl, ?_⟩
              rfl
        ·
          refine w_skip ?_
          refine w_seq ?_
          refine w_seq ?_
          refine w_reg ?_
          refine wr_y rfl (y_move rfl) ?_
          refine wr_y rfl (y_len Try.underlying30 rfl) ?_
          refine wr_y rfl (y_gt rfl rfl) ?_
          refine wr_nil ?_
          refine w_if rfl (fun hc9 => ?_) (fun hc9 => ?_)
          ·
            refine w_reg ?_
            refine wr_y rfl (y_assign rfl) ?_
            refine wr_nil ?_
            refine w_seq ?_
            refine w_reg ?_
            refine wr_a rfl (a_makeN Try.underlying35 zb3 rfl rfl (by omega) (by omega) (by omega)) ?_
            rintro _ _ ⟨g_22, rfl, rfl⟩
            refine wr_rows (R1 := (⟨3, 1, (some ⟨g_22, 0, none⟩), ((1001 : Int).toNat), ((1001 : Int).toNat), ints .i64 (List.replicate ((1001 : Int).toNat) (0 : Int)), false⟩ :: ⟨5, 1, A_11, L1.length, c_12, ints .u8 L1, false⟩ :: ⟨3, 1, A_13, TS1.length, c_14, ints .i64 TS1, false⟩ :: ⟨22, 1, (some ⟨g_8, 0, none⟩), 1, 1, [Value.slice none 0 0], false⟩ :: ⟨22, 1, A_9, (n1 + 1), c_10, vals ++ ([Value.slice none 0 0]), false⟩ :: Rs)) rfl ?_
            refine wr_as (v := .slice (some ⟨g_22, 0, none⟩) ((1001 : Int).toNat) ((1001 : Int).toNat)) rfl ?_
            refine wr_a rfl (a_callF en34 rfl (Ct.quiet (fun w hw => extBackLong_ct ((rdr 0 rfl) w hw) (by rw [List.length_replicate]; decide)))) ?_
            rintro _ _ ⟨rfl, rfl⟩
            refine wr_y rfl (y_move rfl) ?_
            refine wr_y rfl (y_extract rfl rfl) ?_
            refine wr_y rfl (y_extract rfl rfl) ?_
            refine wr_y rfl (y_assign rfl) ?_
            refine wr_y rfl (y_assign rfl) ?_
            refine wr_nil ?_
            refine w_seq ?_
            refine w_reg ?_
            refine wr_y rfl (y_move rfl) ?_
            refine wr_y rfl (y_move rfl) ?_
            refine wr_y rfl (Yl.t (y_eq rfl rfl) (by first | exact absurd ‹em› ‹¬ em› | exact (hx1.code (by rw [flat_app]; omega)).1 (by simp only [List.length_append, List.length_singleton]; omega) | exact (hx1.code (by rw [flat_app]; omega)).2.1 (by simp only [List.length_append, List.length_singleton]; omega) many_app | exact (hx1.code (by omega)).1 (by omega) | exact (hx1.code (by omega)).2.2 (by omega) hnm)) ?_
            refine wr_y rfl (y_move rfl) ?_
            refine wr_yes rfl rfl ?_
            refine wr_y rfl (y_move rfl) ?_
            refine (Classical.em (e1 ≠ 0)).elim (fun hz => ?_) (fun hz => ?_)
            ·
              refine wr_yes rfl rfl ?_
              refine wr_y rfl (Yl.t (y_ne rfl rfl) (hz)) ?_
              refine wr_yes rfl rfl ?_
              refine wr_y rfl (y_move rfl) ?_
              refine wr_no rfl rfl rfl rfl ?_
              refine wr_no rfl rfl rfl rfl ?_
              refine wr_no rfl rfl rfl rfl ?_
              refine wr_no rfl rfl rfl rfl ?_
              refine wr_yes rfl rfl ?_
              refine wr_y rfl (y_pickT rfl rfl) ?_
              refine wr_y rfl (y_pickT rfl rfl) ?_
              refine wr_y rfl (y_move rfl) ?_
              refine wr_yes rfl rfl ?_
              refine wr_y rfl (y_move rfl) ?_
              refine wr_yes rfl rfl ?_
              refine wr_y rfl (Yl.t (y_eq rfl rfl) (rfl)) ?_
              refine wr_y rfl (y_pickT rfl rfl) ?_
              refine wr_y rfl (y_move rfl) ?_
              refine wr_yes rfl rfl ?_
              refine wr_a rfl (a_callF en30 rfl (Ct.quiet (fun w hw => known24_ct))) ?_
              rintro _ _ ⟨rfl, rfl⟩
              refine wr_y rfl (y_pickT rfl rfl) ?_
              refine wr_y rfl (y_assign rfl) ?_
              refine wr_nil ?_
              refine w_retR (R1 := []) (fun _ h => (h.selR (F := [_, _, _, _, _]) (F' := []) [] (by decide) rfl).left (X := [])) ?_
              refine ⟨_, rfl, ?_⟩
              rfl
            ·
              refine wr_yes rfl rfl ?_
              refine wr_y rfl (Yl.f (y_ne rfl rfl) (hz)) ?_
              refine wr_yes rfl rfl ?_
              refine wr_y rfl (y_move rfl) ?_
              refine wr_yes rfl rfl ?_
              refine wr_y rfl (y_move rfl) ?_
              refine wr_yes rfl rfl ?_
              refine wr_y rfl (y_len Try.underlying35 rfl) ?_
              refine wr_yes rfl rfl ?_
              refine wr_y rfl (y_move rfl) ?_
              refine wr_yes rfl rfl ?_
              refine wr_y rfl (Yl.t (y_eq rfl rfl) (by have q := many_len hx1 (by omega); first | exact absurd ‹em› ‹¬ em› | exact absurd many_app q.2 | (have q1 := q.1; omega))) ?_
              refine wr_yes rfl rfl ?_
              refine wr_y rfl (y_pickF rfl rfl) ?_
              refine wr_y rfl (y_pickT rfl rfl) ?_
              refine wr_y rfl (y_move rfl) ?_
              refine wr_yes rfl rfl ?_
              refine wr_y rfl (y_move rfl) ?_
              refine wr_yes rfl rfl ?_
              refine wr_y rfl (Yl.t (y_eq rfl rfl) (rfl)) ?_
              refine wr_y rfl (y_pickT rfl rfl) ?_
              refine wr_y rfl (y_move rfl) ?_
              refine wr_yes rfl rfl ?_
              refine wr_a rfl (a_callF en30 rfl (Ct.quiet (fun w hw => known24_ct))) ?_
              rintro _ _ ⟨rfl, rfl⟩
              refine wr_y rfl (y_pickT rfl rfl) ?_
              refine wr_y rfl (y_assign rfl) ?_
              refine wr_nil ?_
              refine w_retR (R1 := []) (fun _ h => (h.selR (F := [_, _, _, _, _]) (F' := []) [] (by decide) rfl).left (X := [])) ?_
              refine ⟨_, rfl, ?_⟩
              rfl
          ·
            refine w_skip ?_
            refine w_seq ?_
            refine w_reg ?_
            refine wr_a rfl (a_makeN Try.underlying35 zb3 rfl rfl (by omega) (by omega) (by omega)) ?_
            rintro _ _ ⟨g_24, rfl, rfl⟩
            refine wr_rows (R1 := (⟨3, 1, (some ⟨g_24, 0, none⟩), ((1001 : Int).toNat), ((1001 : Int).toNat), ints .i64 (List.replicate ((1001 : Int).toNat) (0 : Int)), false⟩ :: ⟨5, 1, A_11, L1.length, c_12, ints .u8 L1, false⟩ :: ⟨3, 1, A_13, TS1.length, c_14, ints .i64 TS1, false⟩ :: ⟨22, 1, (some ⟨g_8, 0, none⟩), 1, 1, [Value.slice none 0 0], false⟩ :: ⟨22, 1, A_9, (n1 + 1), c_10, vals ++ ([Value.slice none 0 0]), false⟩ :: Rs)) rfl ?_
            refine wr_as (v := .slice (some ⟨g_24, 0, none⟩) ((1001 : Int).toNat) ((1001 : Int).toNat)) rfl ?_
            refine wr_a rfl (a_callF en34 rfl (Ct.quiet (fun w hw => extBackLong_ct ((rdr 0 rfl) w hw) (by rw [List.length_replicate]; decide)))) ?_
            rintro _ _ ⟨rfl, rfl⟩
            refine wr_y rfl (y_move rfl) ?_
            refine wr_y rfl (y_extract rfl rfl) ?_
            refine wr_y rfl (y_extract rfl rfl) ?_
            refine wr_y rfl (y_assign rfl) ?_
            refine wr_y rfl (y_assign rfl) ?_
            refine wr_nil ?_
            refine w_seq ?_
            refine w_reg ?_
            refine wr_y rfl (y_move rfl) ?_
            refine wr_y rfl (y_move rfl) ?_
            refine wr_y rfl (Yl.t (y_eq rfl rfl) (by first | exact absurd ‹em› ‹¬ em› | exact (hx1.code (by rw [flat_app]; omega)).1 (by simp only [List.length_append, List.length_singleton]; omega) | exact (hx1.code (by rw [flat_app]; omega)).2.1 (by simp only [List.length_append, List.length_singleton]; omega) many_app | exact (hx1.code (by omega)).1 (by omega) | exact (hx1.code (by omega)).2.2 (by omega) hnm)) ?_
            refine wr_y rfl (y_move rfl) ?_
            refine wr_yes rfl rfl ?_
            refine wr_y rfl (y_move rfl) ?_
            refine (Classical.em (e1 ≠ 0)).elim (fun hz => ?_) (fun hz => ?_)
            ·
              refine wr_yes rfl rfl ?_
              refine wr_y rfl (Yl.t (y_ne rfl rfl) (hz)) ?_
              refine wr_yes rfl rfl ?_
              refine wr_y rfl (y_move rfl) ?_
              refine wr_no rfl rfl rfl rfl ?_
              refine wr_no rfl rfl rfl rfl ?_
              refine wr_no rfl rfl rfl rfl ?_
              refine wr_no rfl rfl rfl rfl ?_
              refine wr_yes rfl rfl ?_
              refine wr_y rfl (y_pickT rfl rfl) ?_
              refine wr_y rfl (y_pickT rfl rfl) ?_
              refine wr_y rfl (y_move rfl) ?_
              refine wr_yes rfl rfl ?_
              refine wr_y rfl (y_move rfl) ?_
              refine wr_yes rfl rfl ?_
              refine wr_y rfl (Yl.t (y_eq rfl rfl) (rfl)) ?_
              refine wr_y rfl (y_pickT rfl rfl) ?_
              refine wr_y rfl (y_move rfl) ?_
              refine wr_yes rfl rfl ?_
              refine wr_a rfl (a_callF en30 rfl (Ct.quiet (fun w hw => known24_ct))) ?_
              rintro _ _ ⟨rfl, rfl⟩
              refine wr_y rfl (y_pickT rfl rfl) ?_
              refine wr_y rfl (y_assign rfl) ?_
              refine wr_nil ?_
              refine w_retR (R1 := []) (fun _ h => (h.selR (F := [_, _, _, _, _]) (F' := []) [] (by decide) rfl).left (X := [])) ?_
              refine ⟨_, rfl, ?_⟩
              rfl
            ·
              refine wr_yes rfl rfl ?_
              refine wr_y rfl (Yl.f (y_ne rfl rfl) (hz)) ?_
              refine wr_yes rfl rfl ?_
              refine wr_y rfl (y_move rfl) ?_
              refine wr_yes rfl rfl ?_
              refine wr_y rfl (y_move rfl) ?_
              refine wr_yes rfl rfl ?_
              refine wr_y rfl (y_len Try.underlying35 rfl) ?_
              refine wr_yes rfl rfl ?_
              refine wr_y rfl (y_move rfl) ?_
              refine wr_yes rfl rfl ?_
              refine wr_y rfl (Yl.t (y_eq rfl rfl) (by have q := many_len hx1 (by omega); first | exact absurd ‹em› ‹¬ em› | exact absurd many_app q.2 | (have q1 := q.1; omega))) ?_
              refine wr_yes rfl rfl ?_
              refine wr_y rfl (y_pickF rfl rfl) ?_
              refine wr_y rfl (y_pickT rfl rfl) ?_
              refine wr_y rfl (y_move rfl) ?_
              refine wr_yes rfl rfl ?_
              refine wr_y rfl (y_move rfl) ?_
              refine wr_yes rfl rfl ?_
              refine wr_y rfl (Yl.t (y_eq rfl rfl) (rfl)) ?_
              refine wr_y rfl (y_pickT rfl rfl) ?_
              refine wr_y rfl (y_move rfl) ?_
              refine wr_yes rfl rfl ?_
              refine wr_a rfl (a_callF en30 rfl (Ct.quiet (fun w hw => known24_ct))) ?_
              rintro _ _ ⟨rfl, rfl⟩
              refine wr_y rfl (y_pickT rfl rfl) ?_
              refine wr_y rfl (y_assign rfl) ?_
              refine wr_nil ?_
              refine w_retR (R1 := []) (fun _ h => (h.selR (F := [_, _, _, _, _]) (F' := []) [] (by decide) rfl).left (X := [])) ?_
              refine ⟨_, rfl, ?_⟩
              rfl
      ·
        refine w_skip ?_
        refine w_seq ?_
        refine w_reg ?_
        refine wr_y rfl (y_move rfl) ?_
        refine wr_a rfl (a_callF en29 rfl (Ct.fresh (fun w hw => extTurn_ct ((rdr 0 rfl) w hw) (hsl.slw hsb (Hp.right (R' := [_]) hw)) ⟨fun w hw => by first | exact hs8 w hw | exact (List.mem_append.1 hw).elim (hs8 w) (fun h => by obtain rfl := List.mem_singleton.1 h; decide), by first | omega | (rw [List.length_append, List.length_singleton]; omega)⟩))) ?_
        rintro _ _ ⟨_, rfl, A_25, A_27, c_26, c_28, L1, TS1, e1, rfl, hx1, rfl⟩
        refine wr_y rfl (y_move rfl) ?_
        refine wr_y rfl (y_extract rfl rfl) ?_
        refine wr_y rfl (y_extract rfl rfl) ?_
        refine wr_y rfl (y_extract rfl rfl) ?_
        refine wr_y rfl (y_assign rfl) ?_
        refine wr_y rfl (y_assign rfl) ?_
        refine wr_y rfl (y_assign rfl) ?_
        refine wr_nil ?_
        refine w_seq ?_
        refine w_reg ?_
        refine wr_y rfl (y_assign rfl) ?_
        refine wr_nil ?_
        refine w_seq ?_
        refine w_seq ?_
        refine w_reg ?_
        refine wr_y rfl (y_move rfl) ?_
        refine wr_nil ?_
        refine w_if rfl (fun hc10 => ?_) (fun hc10 => ?_)
        ·
          refine w_reg ?_
          refine wr_y rfl (y_assign rfl) ?_
          refine wr_nil ?_
          refine w_seq ?_
          refine w_seq ?_
          refine w_reg ?_
          refine wr_y rfl (y_move rfl) ?_
          refine wr_y rfl (y_len Try.underlying30 rfl) ?_
          refine wr_y rfl (y_gt rfl rfl) ?_
          refine wr_nil ?_
          refine w_if rfl (fun hc11 => ?_) (fun hc11 => ?_)
          ·
            refine w_reg ?_
            refine wr_y rfl (y_assign rfl) ?_
            refine wr_nil ?_
            refine w_seq ?_
            refine w_reg ?_
            refine wr_a rfl (a_makeN Try.underlying35 zb3 rfl rfl (by omega) (by omega) (by omega)) ?_
            rintro _ _ ⟨g_32, rfl, rfl⟩
            refine wr_rows (R1 := (⟨3, 1, (some ⟨g_32, 0, none⟩), ((1001 : Int).toNat), ((1001 : Int).toNat), ints .i64 (List.replicate ((1001 : Int).toNat) (0 : Int)), false⟩ :: ⟨5, 1, A_25, L1.length, c_26, ints .u8 L1, false⟩ :: ⟨3, 1, A_27, TS1.length, c_28, ints .i64 TS1, false⟩ :: ⟨22, 1, A1, n1, c1, vals, false⟩ :: Rs)) rfl ?_
            refine wr_as (v := .slice (some ⟨g_32, 0, none⟩) ((1001 : Int).toNat) ((1001 : Int).toNat)) rfl ?_
            refine wr_a rfl (a_callF en34 rfl (Ct.quiet (fun w hw => extBackLong_ct ((rdr 0 rfl) w hw) (by rw [List.length_replicate]; decide)))) ?_
            rintro _ _ ⟨rfl, rfl⟩
            refine wr_y rfl (y_move rfl) ?_
            refine wr_y rfl (y_extract rfl rfl) ?_
            refine wr_y rfl (y_extract rfl rfl) ?_
            refine wr_y rfl (y_assign rfl) ?_
            refine wr_y rfl (y_assign rfl) ?_
            refine wr_nil ?_
            refine w_seq ?_
            refine w_reg ?_
            refine wr_y rfl (y_move rfl) ?_
            refine wr_y rfl (y_move rfl) ?_
            refine wr_y rfl (Yl.t (y_eq rfl rfl) (by first | exact absurd ‹em› ‹¬ em› | exact (hx1.code (by rw [flat_app]; omega)).1 (by simp only [List.length_append, List.length_singleton]; omega) | exact (hx1.code (by rw [flat_app]; omega)).2.1 (by simp only [List.length_append, List.length_singleton]; omega) many_app | exact (hx1.code (by omega)).1 (by omega) | exact (hx1.code (by omega)).2.2 (by omega) hnm)) ?_
            refine wr_y rfl (y_move rfl) ?_
            refine wr_yes rfl rfl ?_
            refine wr_y rfl (y_move rfl) ?_
            refine (Classical.em (e1 ≠ 0)).elim (fun hz => ?_) (fun hz => ?_)
            ·
              refine wr_yes rfl rfl ?_
              refine wr_y rfl (Yl.t (y_ne rfl rfl) (hz)) ?_
              refine wr_yes rfl rfl ?_
              refine wr_y rfl (y_move rfl) ?_
              refine wr_no rfl rfl rfl rfl ?_
              refine wr_no rfl rfl rfl rfl ?_
              refine wr_no rfl rfl rfl rfl ?_
              refine wr_no rfl rfl rfl rfl ?_
              refine wr_yes rfl rfl ?_
              refine wr_y rfl (y_pickT rfl rfl) ?_
              refine wr_y rfl (y_pickT rfl rfl) ?_
              refine wr_y rfl (y_move rfl) ?_
              refine wr_yes rfl rfl ?_
              refine wr_y rfl (y_move rfl) ?_
              refine wr_yes rfl rfl ?_
              refine wr_y rfl (Yl.t (y_eq rfl rfl) (rfl)) ?_
              refine wr_y rfl (y_pickT rfl rfl) ?_
              refine wr_y rfl (y_move rfl) ?_
              refine wr_yes rfl rfl ?_
              refine wr_a rfl (a_callF en30 rfl (Ct.quiet (fun w hw => known24_ct))) ?_
              rintro _ _ ⟨rfl, rfl⟩
              refine wr_y rfl (y_pickT rfl rfl) ?_
              refine wr_y rfl (y_assign rfl) ?_
              refine wr_nil ?_
              refine w_retR (R1 := []) (fun _ h => (h.selR (F := [_, _, _, _]) (F' := []) [] (by decide) rfl).left (X := [])) ?_
              refine ⟨_, rfl, ?_⟩
              rfl
            ·
              refine wr_yes rfl rfl ?_
              refine wr_y rfl (Yl.f (y_ne rfl rfl) (hz)) ?_
              refine wr_yes rfl rfl ?_
              refine wr_y rfl (y_move rfl) ?_
              refine wr_yes rfl rfl ?_
              refine wr_y rfl (y_move rfl) ?_
              refine wr_yes rfl rfl ?_
              refine wr_y rfl (y_len Try.underlying35 rfl) ?_
              refine wr_yes rfl rfl ?_
              refine wr_y rfl (y_move rfl) ?_
              refine wr_yes rfl rfl ?_
              refine wr_y rfl (Yl.t (y_eq rfl rfl) (by have q := many_len hx1 (by omega); first | exact absurd ‹em› ‹¬ em› | exact absurd many_app q.2 | (have q1 := q.1; omega))) ?_
              refine wr_yes rfl rfl ?_
              refine wr_y rfl (y_pickF rfl rfl) ?_
              refine wr_y rfl (y_pickT rfl rfl) ?_
              refine wr_y rfl (y_move rfl) ?_
              refine wr_yes rfl rfl ?_
              refine wr_y rfl (y_move rfl) ?_
              refine wr_yes rfl rfl ?_
              refine wr_y rfl (Yl.t (y_eq rfl rfl) (rfl)) ?_
              refine wr_y rfl (y_pickT rfl rfl) ?_
              refine wr_y rfl (y_move rfl) ?_
              refine wr_yes rfl rfl ?_
              refine wr_a rfl (a_callF en30 rfl (Ct.quiet (fun w hw => known24_ct))) ?_
              rintro _ _ ⟨rfl, rfl⟩
              refine wr_y rfl (y_pickT rfl rfl) ?_
              refine wr_y rfl (y_assign rfl) ?_
              refine wr_nil ?_
              refine w_retR (R1 := []) (fun _ h => (h.selR (F := [_, _, _, _]) (F' := []) [] (by decide) rfl).left (X := [])) ?_
              refine ⟨_, rfl, ?_⟩
              rfl
          ·
            refine w_skip ?_
            refine w_seq ?_
            refine w_reg ?_
            refine wr_a rfl (a_makeN Try.underlying35 zb3 rfl rfl (by omega) (by omega) (by omega)) ?_
            rintro _ _ ⟨g_34, rfl, rfl⟩
            refine wr_rows (R1 := (⟨3, 1, (some ⟨g_34, 0, none⟩), ((1001 : Int).toNat), ((1001 : Int).toNat), ints .i64 (List.replicate ((1001 : Int).toNat) (0 : Int)), false⟩ :: ⟨5, 1, A_25, L1.length, c_26, ints .u8 L1, false⟩ :: ⟨3, 1, A_27, TS1.length, c_28, ints .i64 TS1, false⟩ :: ⟨22, 1, A1, n1, c1, vals, false⟩ :: Rs)) rfl ?_
            refine wr_as (v := .slice (some ⟨g_34, 0, none⟩) ((1001 : Int).toNat) ((1001 : Int).toNat)) rfl ?_
            refine wr_a rfl (a_callF en34 rfl (Ct.quiet (fun w hw => extBackLong_ct ((rdr 0 rfl) w hw) (by rw [List.length_replicate]; decide)))) ?_
            rintro _ _ ⟨rfl, rfl⟩
            refine wr_y rfl (y_move rfl) ?_
            refine wr_y rfl (y_extract rfl rfl) ?_
            refine wr_y rfl (y_extract rfl rfl) ?_
            refine wr_y rfl (y_assign rfl) ?_
            refine wr_y rfl (y_assign rfl) ?_
            refine wr_nil ?_
            refine w_seq ?_
            refine w_reg ?_
            refine wr_y rfl (y_move rfl) ?_
            refine wr_y rfl (y_move rfl) ?_
            refine wr_y rfl (Yl.t (y_eq rfl rfl) (by first | exact absurd ‹em› ‹¬ em› | exact (hx1.code (by rw [flat_app]; omega)).1 (by simp only [List.length_append, List.length_singleton]; omega) | exact (hx1.code (by rw [flat_app]; omega)).2.1 (by simp only [List.length_append, List.length_singleton]; omega) many_app | exact (hx1.code (by omega)).1 (by omega) | exact (hx1.code (by omega)).2.2 (by omega) hnm)) ?_
            refine wr_y rfl (y_move rfl) ?_
            refine wr_yes rfl rfl ?_
            refine wr_y rfl (y_move rfl) ?_
            refine (Classical.em (e1 ≠ 0)).elim (fun hz => ?_) (fun hz => ?_)
            ·
              refine wr_yes rfl rfl ?_
              refine wr_y rfl (Yl.t (y_ne rfl rfl) (hz)) ?_
              refine wr_yes rfl rfl ?_
              refine wr_y rfl (y_move rfl) ?_
              refine wr_no rfl rfl rfl rfl ?_
              refine wr_no rfl rfl rfl rfl ?_
              refine wr_no rfl rfl rfl rfl ?_
              refine wr_no rfl rfl rfl rfl ?_
              refine wr_yes rfl rfl ?_
              refine wr_y rfl (y_pickT rfl rfl) ?_
              refine wr_y rfl (y_pickT rfl rfl) ?_
              refine wr_y rfl (y_move rfl) ?_
              refine wr_yes rfl rfl ?_
              refine wr_y rfl (y_move rfl) ?_
              refine wr_yes rfl rfl ?_
              refine wr_y rfl (Yl.t (y_eq rfl rfl) (rfl)) ?_
              refine wr_y rfl (y_pickT rfl rfl) ?_
              refine wr_y rfl (y_move rfl) ?_
              refine wr_yes rfl rfl ?_
              refine wr_a rfl (a_callF en30 rfl (Ct.quiet (fun w hw => known24_ct))) ?_
              rintro _ _ ⟨rfl, rfl⟩
              refine wr_y rfl (y_pickT rfl rfl) ?_
              refine wr_y rfl (y_assign rfl) ?_
              refine wr_nil ?_
              refine w_retR (R1 := []) (fun _ h => (h.selR (F := [_, _, _, _]) (F' := []) [] (by decide) rfl).left (X := [])) ?_
              refine ⟨_, rfl, ?_⟩
              rfl
            ·
              refine wr_yes rfl rfl ?_
              refine wr_y rfl (Yl.f (y_ne rfl rfl) (hz)) ?_
              refine wr_yes rfl rfl ?_
              refine wr_y rfl (y_move rfl) ?_
              refine wr_yes rfl rfl ?_
              refine wr_y rfl (y_move rfl) ?_
              refine wr_yes rfl rfl ?_
              refine wr_y rfl (y_len Try.underlying35 rfl) ?_
              refine wr_yes rfl rfl ?_
              refine wr_y rfl (y_move rfl) ?_
              refine wr_yes rfl rfl ?_
              refine wr_y rfl (Yl.t (y_eq rfl rfl) (by have q := many_len hx1 (by omega); first | exact absurd ‹em› ‹¬ em› | exact absurd many_app q.2 | (have q1 := q.1; omega))) ?_
              refine wr_yes rfl rfl ?_
              refine wr_y rfl (y_pickF rfl rfl) ?_
              refine wr_y rfl (y_pickT rfl rfl) ?_
              refine wr_y rfl (y_move rfl) ?_
              refine wr_yes rfl rfl ?_
              refine wr_y rfl (y_move rfl) ?_
              refine wr_yes rfl rfl ?_
              refine wr_y rfl (Yl.t (y_eq rfl rfl) (rfl)) ?_
              refine wr_y rfl (y_pickT rfl rfl) ?_
              refine wr_y rfl (y_move rfl) ?_
              refine wr_yes rfl rfl ?_
              refine wr_a rfl (a_callF en30 rfl (Ct.quiet (fun w hw => known24_ct))) ?_
              rintro _ _ ⟨rfl, rfl⟩
              refine wr_y rfl (y_pickT rfl rfl) ?_
              refine wr_y rfl (y_assign rfl) ?_
              refine wr_nil ?_
              refine w_retR (R1 := []) (fun _ h => (h.selR (F := [_, _, _, _]) (F' := []) [] (by decide) rfl).left (X := [])) ?_
              refine ⟨_, rfl, ?_⟩
              rfl
        ·
          refine w_skip ?_
          refine w_seq ?_
          refine w_seq ?_
          refine w_reg ?_
          refine wr_y rfl (y_move rfl) ?_
          refine wr_y rfl (y_len Try.underlying30 rfl) ?_
          refine wr_y rfl (y_gt rfl rfl) ?_
          refine wr_nil ?_
          refine w_if rfl (fun hc12 => ?_) (fun hc12 => ?_)
          ·
            refine w_reg ?_
            refine wr_y rfl (y_assign rfl) ?_
            refine wr_nil ?_
            refine w_seq ?_
            refine w_reg ?_
            refine wr_a rfl (a_makeN Try.underlying35 zb3 rfl rfl (by omega) (by omega) (by omega)) ?_
            rintro _ _ ⟨g_36, rfl, rfl⟩
            refine wr_rows (R1 := (⟨3, 1, (some ⟨g_36, 0, none⟩), ((1001 : Int).toNat), ((1001 : Int).toNat), ints .i64 (List.replicate ((1001 : Int).toNat) (0 : Int)), false⟩ :: ⟨5, 1, A_25, L1.length, c_26, ints .u8 L1, false⟩ :: ⟨3, 1, A_27, TS1.length, c_28, ints .i64 TS1, false⟩ :: ⟨22, 1, A1, n1, c1, vals, false⟩ :: Rs)) rfl ?_
            refine wr_as (v := .slice (some ⟨g_36, 0, none⟩) ((1001 : Int).toNat) ((1001 : Int).toNat)) rfl ?_
            refine wr_a rfl (a_callF en34 rfl (Ct.quiet (fun w hw => extBackLong_ct ((rdr 0 rfl) w hw) (by rw [List.length_replicate]; decide)))) ?_
            rintro _ _ ⟨rfl, rfl⟩
            refine wr_y rfl (y_move rfl) ?_
            refine wr_y rfl (y_extract rfl rfl) ?_
            refine wr_y rfl (y_extract rfl rfl) ?_
            refine wr_y rfl (y_assign rfl) ?_
            refine wr_y rfl (y_assign rfl) ?_
            refine wr_nil ?_
            refine w_seq ?_
            refine w_reg ?_
            refine wr_y rfl (y_move rfl) ?_
            refine wr_y rfl (y_move rfl) ?_
            refine wr_y rfl (Yl.t (y_eq rfl rfl) (by first | exact absurd ‹em› ‹¬ em› | exact (hx1.code (by rw [flat_app]; omega)).1 (by simp only [List.length_append, List.length_singleton]; omega) | exact (hx1.code (by rw [flat_app]; omega)).2.1 (by simp only [List.length_append, List.length_singleton]; omega) many_app | exact (hx1.code (by omega)).1 (by omega) | exact (hx1.code (by omega)).2.2 (by omega) hnm)) ?_
            refine wr_y rfl (y_move rfl) ?_
            refine wr_yes rfl rfl ?_
            refine wr_y rfl (y_move rfl) ?_
            refine (Classical.em (e1 ≠ 0)).elim (fun hz => ?_) (fun hz => ?_)
            ·
              refine wr_yes rfl rfl ?_
              refine wr_y rfl (Yl.t (y_ne rfl rfl) (hz)) ?_
              refine wr_yes rfl rfl ?_
              refine wr_y rfl (y_move rfl) ?_
              refine wr_no rfl rfl rfl rfl ?_
              refine wr_no rfl rfl rfl rfl ?_
              refine wr_no rfl rfl rfl rfl ?_
              refine wr_no rfl rfl rfl rfl ?_
              refine wr_yes rfl rfl ?_
              refine wr_y rfl (y_pickT rfl rfl) ?_
              refine wr_y rfl (y_pickT rfl rfl) ?_
              refine wr_y rfl (y_move rfl) ?_
              refine wr_yes rfl rfl ?_
              refine wr_y rfl (y_move rfl) ?_
              refine wr_yes rfl rfl ?_
              refine wr_y rfl (Yl.t (y_eq rfl rfl) (rfl)) ?_
              refine wr_y rfl (y_pickT rfl rfl) ?_
              refine wr_y rfl (y_move rfl) ?_
              refine wr_yes rfl rfl ?_
              refine wr_a rfl (a_callF en30 rfl (Ct.quiet (fun w hw => known24_ct))) ?_
              rintro _ _ ⟨rfl, rfl⟩
              refine wr_y rfl (y_pickT rfl rfl) ?_
              refine wr_y rfl (y_assign rfl) ?_
              refine wr_nil ?_
              refine w_retR (R1 := []) (fun _ h => (h.selR (F := [_, _, _, _]) (F' := []) [] (by decide) rfl).left (X := [])) ?_
              refine ⟨_, rfl, ?_⟩
              rfl
            ·
              refine wr_yes rfl rfl ?_
              refine wr_y rfl (Yl.f (y_ne rfl rfl) (hz)) ?_
              refine wr_yes rfl rfl ?_
              refine wr_y rfl (y_move rfl) ?_
              refine wr_yes rfl rfl ?_
              refine wr_y rfl (y_move rfl) ?_
              refine wr_yes rfl rfl ?_
              refine wr_y rfl (y_len Try.underlying35 rfl) ?_
              refine wr_yes rfl rfl ?_
              refine wr_y rfl (y_move rfl) ?_
              refine wr_yes rfl rfl ?_
              refine wr_y rfl (Yl.t (y_eq rfl rfl) (by have q := many_len hx1 (by omega); first | exact absurd ‹em› ‹¬ em› | exact absurd many_app q.2 | (have q1 := q.1; omega))) ?_
              refine wr_yes rfl rfl ?_
              refine wr_y rfl (y_pickF rfl rfl) ?_
              refine wr_y rfl (y_pickT rfl rfl) ?_
              refine wr_y rfl (y_move rfl) ?_
              refine wr_yes rfl rfl ?_
              refine wr_y rfl (y_move rfl) ?_
              refine wr_yes rfl rfl ?_
              refine wr_y rfl (Yl.t (y_eq rfl rfl) (rfl)) ?_
              refine wr_y rfl (y_pickT rfl rfl) ?_
              refine wr_y rfl (y_move rfl) ?_
              refine wr_yes rfl rfl ?_
              refine wr_a rfl (a_callF en30 rfl (Ct.quiet (fun w hw => known24_ct))) ?_
              rintro _ _ ⟨rfl, rfl⟩
              refine wr_y rfl (y_pickT rfl rfl) ?_
              refine wr_y rfl (y_assign rfl) ?_
              refine wr_nil ?_
              refine w_retR (R1 := []) (fun _ h => (h.selR (F := [_, _, _, _]) (F' := []) [] (by decide) rfl).left (X := [])) ?_
              refine ⟨_, rfl, ?_⟩
              rfl
          ·
            refine w_skip ?_
            refine w_seq ?_
            refine w_reg ?_
            refine wr_a rfl (a_makeN Try.underlying35 zb3 rfl rfl (by omega) (by omega) (by omega)) ?_
            rintro _ _ ⟨g_38, rfl, rfl⟩
            refine wr_rows (R1 := (⟨3, 1, (some ⟨g_38, 0, none⟩), ((1001 : Int).toNat), ((1001 : Int).toNat), ints .i64 (List.replicate ((1001 : Int).toNat) (0 : Int)), false⟩ :: ⟨5, 1, A_25, L1.length, c_26, ints .u8 L1, false⟩ :: ⟨3, 1, A_27, TS1.length, c_28, ints .i64 TS1, false⟩ :: ⟨22, 1, A1, n1, c1, vals, false⟩ :: Rs)) rfl ?_
            refine wr_as (v := .slice (some ⟨g_38, 0, none⟩) ((1001 : Int).toNat) ((1001 : Int).toNat)) rfl ?_
            refine wr_a rfl (a_callF en34 rfl (Ct.quiet (fun w hw => extBackLong_ct ((rdr 0 rfl) w hw) (by rw [List.length_replicate]; decide)))) ?_
            rintro _ _ ⟨rfl, rfl⟩
            refine wr_y rfl (y_move rfl) ?_
            refine wr_y rfl (y_extract rfl rfl) ?_
            refine wr_y rfl (y_extract rfl rfl) ?_
            refine wr_y rfl (y_assign rfl) ?_
            refine wr_y rfl (y_assign rfl) ?_
            refine wr_nil ?_
            refine w_seq ?_
            refine w_reg ?_
            refine wr_y rfl (y_move rfl) ?_
            refine wr_y rfl (y_move rfl) ?_
            refine wr_y rfl (Yl.t (y_eq rfl rfl) (by first | exact absurd ‹em› ‹¬ em› | exact (hx1.code (by rw [flat_app]; omega)).1 (by simp only [List.length_append, List.length_singleton]; omega) | exact (hx1.code (by rw [flat_app]; omega)).2.1 (by simp only [List.length_append, List.length_singleton]; omega) many_app | exact (hx1.code (by omega)).1 (by omega) | exact (hx1.code (by omega)).2.2 (by omega) hnm)) ?_
            refine wr_y rfl (y_move rfl) ?_
            refine wr_yes rfl rfl ?_
            refine wr_y rfl (y_move rfl) ?_
            refine (Classical.em (e1 ≠ 0)).elim (fun hz => ?_) (fun hz => ?_)
            ·
              refine wr_yes rfl rfl ?_
              refine wr_y rfl (Yl.t (y_ne rfl rfl) (hz)) ?_
              refine wr_yes rfl rfl ?_
              refine wr_y rfl (y_move rfl) ?_
              refine wr_no rfl rfl rfl rfl ?_
              refine wr_no rfl rfl rfl rfl ?_
              refine wr_no rfl rfl rfl rfl ?_
              refine wr_no rfl rfl rfl rfl ?_
              refine wr_yes rfl rfl ?_
              refine wr_y rfl (y_pickT rfl rfl) ?_
              refine wr_y rfl (y_pickT rfl rfl) ?_
              refine wr_y rfl (y_move rfl) ?_
              refine wr_yes rfl rfl ?_
              refine wr_y rfl (y_move rfl) ?_
              refine wr_yes rfl rfl ?_
              refine wr_y rfl (Yl.t (y_eq rfl rfl) (rfl)) ?_
              refine wr_y rfl (y_pickT rfl rfl) ?_
              refine wr_y rfl (y_move rfl) ?_
              refine wr_yes rfl rfl ?_
              refine wr_a rfl (a_callF en30 rfl (Ct.quiet (fun w hw => known24_ct))) ?_
              rintro _ _ ⟨rfl, rfl⟩
              refine wr_y rfl (y_pickT rfl rfl) ?_
              refine wr_y rfl (y_assign rfl) ?_
              refine wr_nil ?_
              refine w_retR (R1 := []) (fun _ h => (h.selR (F := [_, _, _, _]) (F' := []) [] (by decide) rfl).left (X := [])) ?_
              refine ⟨_, rfl, ?_⟩
              rfl
            ·
              refine wr_yes rfl rfl ?_
              refine wr_y rfl (Yl.f (y_ne rfl rfl) (hz)) ?_
              refine wr_yes rfl rfl ?_
              refine wr_y rfl (y_move rfl) ?_
              refine wr_yes rfl rfl ?_
              refine wr_y rfl (y_move rfl) ?_
              refine wr_yes rfl rfl ?_
              refine wr_y rfl (y_len Try.underlying35 rfl) ?_
              refine wr_yes rfl rfl ?_
              refine wr_y rfl (y_move rfl) ?_
              refine wr_yes rfl rfl ?_
              refine wr_y rfl (Yl.t (y_eq rfl rfl) (by have q := many_len hx1 (by omega); first | exact absurd ‹em› ‹¬ em› | exact absurd many_app q.2 | (have q1 := q.1; omega))) ?_
              refine wr_yes rfl rfl ?_
              refine wr_y rfl (y_pickF rfl rfl) ?_
              refine wr_y rfl (y_pickT rfl rfl) ?_
              refine wr_y rfl (y_move rfl) ?_
              refine wr_yes rfl rfl ?_
              refine wr_y rfl (y_move rfl) ?_
              refine wr_yes rfl rfl ?_
              refine wr_y rfl (Yl.t (y_eq rfl rfl) (rfl)) ?_
              refine wr_y rfl (y_pickT rfl rfl) ?_
              refine wr_y rfl (y_move rfl) ?_
              refine wr_yes rfl rfl ?_
              refine wr_a rfl (a_callF en30 rfl (Ct.quiet (fun w hw => known24_ct))) ?_
              rintro _ _ ⟨rfl, rfl⟩
              refine wr_y rfl (y_pickT rfl rfl) ?_
              refine wr_y rfl (y_assign rfl) ?_
              refine wr_nil ?_
              refine w_retR (R1 := []) (fun _ h => (h.selR (F := [_, _, _, _]) (F' := []) [] (by decide) rfl).left (X := [])) ?_
              refine ⟨_, rfl, ?_⟩
              rfl

theorem extManyB_ct {w : World} {n : Int} {b : Bool} : Ct Try.prog 13 #[.int .i64 n, .bool b] w.heap.size w [] (fun v R' => v = .bool true) := by
  have h := extMany_ct (w := w) (n := n) (em := b = true)
  have e : decide (b = true) = b := by cases b <;> rfl
  rwa [e] at h
end Go.Proofs.Ytdfcnalkdlifiaa

