/- Several texts of our own in one: X1, E31, X2, X3. -/
import Derived.Test.YtdfcnalkdlifiaaGreatB4
/-! ## X1 -/
namespace Go.Proofs.YtdfcnalkdlifiaaGreat
open Go Go.Eng Go.Pure
set_option linter.unusedVariables false
abbrev emptyP (ws : List (List Int)) : Prop := ∃ w ∈ ws, w.length = 0
theorem emptyP_at {ws : List (List Int)} {i : Int} (h0 : 0 ≤ i) (h1 : i < ws.length) (h : ((rdl ws i).length : Int) = 0) : emptyP ws := ⟨_, rdl_mem2 h0 h1, by omega⟩
theorem emptyP_no {ws : List (List Int)} {i : Int} (hi : (ws.length : Int) ≤ i) (h : ∀ j : Int, 0 ≤ j → j < i → j < ws.length → 0 < (rdl ws j).length) : ¬ emptyP ws := fun ⟨w, hw, e⟩ => by
  obtain ⟨k, hk, rfl⟩ := List.mem_iff_getElem.1 hw
  have := h k (by omega) (by omega) (by omega)
  unfold rdl at this
  rw [Int.toNat_natCast, List.getD_eq_getElem?_getD, List.getElem?_eq_getElem hk] at this
  simp at this
  omega
set_option maxRecDepth 100000 in
theorem len0_ct {w : World} {A_u : Option Addr} {n_u c_u : Nat} {u : List Int} (h_u : Rd w A_u n_u c_u 1 (ints .u8 u)) :
    Ct Tryz.prog 18 #[.slice A_u n_u c_u] w.heap.size w [] (fun v R' => v = .bool (decide ((u.length : Int) = 0))) := by
  obtain rfl := h_u.lenI
  refine fn1 Tryz.func18 rfl rfl rfl ?_
  have m_u := h_u.max
  refine w_seq ?_
  refine w_reg ?_
  refine wr_y rfl (y_assign rfl) ?_
  refine wr_nil ?_
  refine w_seq ?_
  refine w_reg ?_
  refine wr_y rfl (y_move rfl) ?_
  refine wr_y rfl (y_len Tryz.underlying23 rfl) ?_
  refine wr_y rfl (y_eq rfl rfl) ?_
  refine wr_y rfl (y_assign rfl) ?_
  refine wr_nil ?_
  refine w_ret ?_
  refine ⟨_, rfl, ?_⟩
  rfl

set_option maxRecDepth 100000 in
set_option maxHeartbeats 600000 in
theorem indexE_ct {w : World} {A_ws : Option Addr} {n_ws c_ws : Nat} {vals_ws : List Value} {ws : List (List Int)} (h_ws : Rd w A_ws n_ws c_ws 1 vals_ws) (s_ws : SlW .u8 w vals_ws ws) :
    Ct Tryz.prog 33 #[.slice A_ws n_ws c_ws, .func (.func 18) #[] #[]] w.heap.size w [] (fun v R' => ∃ z : Int, v = .int .i64 z ∧ (0 ≤ z ↔ emptyP ws)) := by
  obtain rfl : n_ws = ws.length := by have := h_ws.len; have := s_ws.1; omega
  refine fn1 Tryz.func33 rfl rfl rfl ?_
  have m_ws := h_ws.max
  refine w_seq ?_
  refine w_reg ?_
  refine wr_y rfl (y_assign rfl) ?_
  refine wr_nil ?_
  refine w_seq ?_
  refine w_seq ?_
  refine w_reg ?_
  refine wr_y rfl (y_move rfl) ?_
  refine wr_y rfl (y_len Tryz.underlying22 rfl) ?_
  refine wr_y rfl (y_move rfl) ?_
  refine wr_nil ?_
  refine w_block ?_
  refine w_loop1 (fun (k : Int) => [(0, .slice A_ws ws.length c_ws), (1, .func (.func 18) #[] #[]), (7, .int .i64 ((ws.length : Nat) : Int)), (8, .int .i64 k)]) (fun (k : Int) => []) (fun (k : Int) => (0 ≤ k) ∧ (k ≤ ws.length) ∧ (∀ j : Int, 0 ≤ j → j < k → j < ws.length → 0 < (rdl ws j).length)) (fun (k : Int) => (ws.length - k).toNat) ?_ ?_
  ·
    exact ⟨0, ⟨(by omega), (by omega), (fun j h1 h2 => by omega)⟩, (Sub.cons rfl (Sub.cons rfl (Sub.cons rfl (Sub.cons rfl Sub.nil)))), fun _ h => h⟩
  intro k ⟨hk0, hk1, hne⟩
  refine w_seq ?_
  refine w_reg ?_
  refine wr_y rfl (y_lt rfl rfl) ?_
  refine wr_nil ?_
  refine w_seq ?_
  refine w_if rfl (fun hc1 => ?_) (fun hc1 => ?_)
  ·
    refine w_skip ?_
    refine w_seq ?_
    refine w_block ?_
    refine w_seq ?_
    refine w_reg ?_
    refine wr_y rfl (y_move rfl) ?_
    refine wr_y rfl (y_assign rfl) ?_
    refine wr_nil ?_
    refine w_seq ?_
    refine w_reg ?_
    refine wr_y rfl (y_move rfl) ?_
    refine wr_y rfl (y_move rfl) ?_
    refine wr_y rfl (y_move rfl) ?_
    refine wr_y rfl (y_index1 Tryz.underlying22 sz23 rfl rfl (h_ws.c _) (by omega) (by omega)) ?_
    refine s_ws.elim (i := k) (by omega) (by omega) (fun A_1 c_2 hv_3 hr_4 hb_5 mhr_4 => ?_)
    refine wr_y rfl (y_ld Tryz.underlying23 rfl rfl rfl (h_ws.c _) hv_3) ?_
    refine wr_a rfl (a_call en18 rfl rfl (Ct.quiet (fun w hw => len0_ct ((hr_4.c _) w hw)))) ?_
    rintro _ _ ⟨rfl, rfl⟩
    refine wr_nil ?_
    refine w_if rfl (fun hc2 => ?_) (fun hc2 => ?_)
    ·
      refine w_seq ?_
      refine w_reg ?_
      refine wr_y rfl (y_move rfl) ?_
      refine wr_y rfl (y_assign rfl) ?_
      refine wr_nil ?_
      refine w_ret ?_
      refine ⟨_, rfl, ?_⟩
      exact ⟨k, rfl, ⟨fun _ => emptyP_at hk0 (by omega) (by assumption), fun _ => hk0⟩⟩
    ·
      refine w_skip ?_
      refine w_reg ?_
      refine wr_y rfl (y_addI rfl rfl (by omega)) ?_
      refine wr_y rfl (y_move rfl) ?_
      refine wr_nil ?_
      exact ⟨k + 1, ⟨(by omega), (by omega), (fun j h1 h2 h3 => by
          rcases Int.lt_or_le j k with g | g
          · exact hne j h1 g h3
          · obtain rfl : j = k := by omega
            omega)⟩, (by omega), (Sub.cons rfl (Sub.cons rfl (Sub.cons rfl (Sub.cons rfl Sub.nil)))), fun _ h => h⟩
  ·
    refine w_exit ?_
    refine w_seq ?_
    refine w_reg ?_
    refine wr_y rfl (y_assign rfl) ?_
    refine wr_nil ?_
    refine w_ret ?_
    refine ⟨_, rfl, ?_⟩
    exact ⟨-1, rfl, ⟨fun h => by omega, fun h => absurd h (emptyP_no (by omega) hne)⟩⟩

set_option maxRecDepth 100000 in
theorem containsE_ct {w : World} {A_ws : Option Addr} {n_ws c_ws : Nat} {vals_ws : List Value} {ws : List (List Int)} (h_ws : Rd w A_ws n_ws c_ws 1 vals_ws) (s_ws : SlW .u8 w vals_ws ws) :
    Ct Tryz.prog 17 #[.slice A_ws n_ws c_ws, .func (.func 18) #[] #[]] w.heap.size w [] (fun v R' => v = .bool (decide (emptyP ws))) := by
  obtain rfl : n_ws = ws.length := by have := h_ws.len; have := s_ws.1; omega
  refine fn1 Tryz.func17 rfl rfl rfl ?_
  have m_ws := h_ws.max
  refine w_seq ?_
  refine w_reg ?_
  refine wr_y rfl (y_assign rfl) ?_
  refine wr_nil ?_
  refine w_seq ?_
  refine w_reg ?_
  refine wr_y rfl (y_move rfl) ?_
  refine wr_y rfl (y_move rfl) ?_
  refine wr_a rfl (a_callF en33 rfl (Ct.quiet (fun w hw => indexE_ct ((h_ws.c _) w hw) (s_ws.c hw)))) ?_
  rintro _ _ ⟨rfl, z1, rfl, hz1⟩
  refine wr_y rfl (y_ge rfl rfl) ?_
  refine wr_y rfl (y_assign rfl) ?_
  refine wr_nil ?_
  refine w_ret ?_
  refine ⟨_, rfl, ?_⟩
  exact congrArg Value.bool (decide_eq_decide.2 hz1)

set_option maxRecDepth 100000 in
set_option maxHeartbeats 2000000 in
theorem extTurn_ct {w : World} {A_ws : Option Addr} {n_ws c_ws : Nat} {vals_ws : List Value} {ws : List (List Int)} (h_ws : Rd w A_ws n_ws c_ws 1 vals_ws) (s_ws : SlW .u8 w vals_ws ws) (hN : (∀ w ∈ ws, w.length ≤ 8000) ∧ ws.length ≤ 100000) :
    Ct Tryz.prog 7 #[.slice A_ws n_ws c_ws] w.heap.size w [] (fun v R' => ∃ (A A2 : Option Addr) (c c2 : Nat) (L TS : List Int) (e : Int), v = .tuple #[.slice A L.length c, .slice A2 TS.length c2, .int .i64 e] ∧ ExtR ws L TS e ∧ R' = [⟨5, 1, A, L.length, c, ints .u8 L, false⟩, ⟨3, 1, A2, TS.length, c2, ints .i64 TS, false⟩]) := by
  obtain rfl : n_ws = ws.length := by have := h_ws.len; have := s_ws.1; omega
  refine fn3 Tryz.func7 rfl rfl rfl ?_
  have m_ws := h_ws.max
  refine w_seq ?_
  refine w_reg ?_
  refine wr_sub (R1 := (⟨5, 1, none, 0, 0, ints .u8 ([]), false⟩ :: [])) (Sub.refl _) (fun _ h => h.nil 5 1) ?_
  refine wr_y rfl (y_assign rfl) ?_
  refine wr_sub (R1 := (⟨3, 1, none, 0, 0, ints .i64 ([]), false⟩ :: ⟨5, 1, none, 0, 0, ints .u8 ([]), false⟩ :: [])) (Sub.refl _) (fun _ h => h.nil 3 1) ?_
  refine wr_y rfl (y_assign rfl) ?_
  refine wr_y rfl (y_assign rfl) ?_
  refine wr_nil ?_
  refine w_seq ?_
  refine w_reg ?_
  refine wr_y rfl (y_assign rfl) ?_
  refine wr_nil ?_
  refine w_seq ?_
  refine w_seq ?_
  refine w_reg ?_
  refine wr_y rfl (y_move rfl) ?_
  refine wr_y rfl (y_len Tryz.underlying22 rfl) ?_
  refine wr_y rfl (y_move rfl) ?_
  refine wr_nil ?_
  refine w_block ?_
  refine w_loop2 (fun (i : Int) (z : Int) => [(0, .slice A_ws ws.length c_ws), (5, .int .i64 z), (11, .slice A_ws ws.length c_ws), (12, .int .i64 ((ws.length : Nat) : Int)), (13, .int .i64 i)]) (fun (i : Int) (z : Int) => (⟨3, 1, none, 0, 0, ints .i64 ([]), false⟩ :: ⟨5, 1, none, 0, 0, ints .u8 ([]), false⟩ :: [])) (fun (i : Int) (z : Int) => (0 ≤ i) ∧ (i ≤ ws.length) ∧ (z = ((ws.take i.toNat).flatten.length : Int)) ∧ (0 ≤ z ∧ z ≤ i * 8000)) (fun (i : Int) (z : Int) => (ws.length - i).toNat) ?_ ?_
  ·
    exact ⟨0, 0, ⟨(by omega), (by omega), (rfl), (by omega)⟩, (Sub.cons rfl (Sub.cons rfl (Sub.cons rfl (Sub.cons rfl (Sub.cons rfl Sub.nil))))), fun _ h => h⟩
  intro i z ⟨hi0, hi1, hz, hz2⟩
  have hwl : 0 ≤ i → i < ws.length → (rdl ws i).length ≤ 8000 := fun h h' => hN.1 _ (rdl_mem2 h h')
  refine w_seq ?_
  refine w_reg ?_
  refine wr_y rfl (y_lt rfl rfl) ?_
  refine wr_nil ?_
  refine w_seq ?_
  refine w_if rfl (fun hc1 => ?_) (fun hc1 => ?_)
  ·
    have hwl2 := hwl hi0 (by omega)
    refine w_skip ?_
    refine w_seq ?_
    refine w_block ?_
    refine w_seq ?_
    refine w_reg ?_
    refine wr_y rfl (y_index1 Tryz.underlying22 sz23 rfl rfl (h_ws.c _) (by omega) (by omega)) ?_
    refine s_ws.elim (i := i) (by omega) (by omega) (fun A_1 c_2 hv_3 hr_4 hb_5 mhr_4 => ?_)
    refine wr_y rfl (y_ld Tryz.underlying23 rfl rfl rfl (h_ws.c _) hv_3) ?_
    refine wr_y rfl (y_assign rfl) ?_
    refine wr_nil ?_
    refine w_reg ?_
    refine wr_y rfl (y_move rfl) ?_
    refine wr_y rfl (y_move rfl) ?_
    refine wr_y rfl (y_len Tryz.underlying23 rfl) ?_
    refine wr_y rfl (y_addI rfl rfl (by omega)) ?_
    refine wr_y rfl (y_assign rfl) ?_
    refine wr_nil ?_
    refine w_reg ?_
    refine wr_y rfl (y_addI rfl rfl (by omega)) ?_
    refine wr_y rfl (y_move rfl) ?_
    refine wr_nil ?_
    exact ⟨i + 1, z + (((rdl ws i).length : Nat) : Int), ⟨(by omega), (by omega), (by rw [flat_take_succ hi0 (by omega), List.length_append, hz]; omega), (by omega)⟩, (by omega), (Sub.cons rfl (Sub.cons rfl (Sub.cons rfl (Sub.cons rfl (Sub.cons rfl Sub.nil))))), fun _ h => h⟩
  ·
    obtain rfl : i = ws.length := by omega
    rw [Int.toNat_natCast, List.take_length] at hz
    refine w_exit ?_
    refine w_seq ?_
    refine w_seq ?_
    refine w_reg ?_
    refine wr_y rfl (y_move rfl) ?_
    refine wr_y rfl (y_len Tryz.underlying22 rfl) ?_
    refine wr_y rfl (y_gt rfl rfl) ?_
    refine wr_y rfl (y_move rfl) ?_
    refine wr_mid 3 [(0, .slice A_ws ws.length c_ws), (28, .bool (decide ((1000 < ((ws.length : Nat) : Int)) ∨ (100000 < z))))] (⟨3, 1, none, 0, 0, ints .i64 ([]), false⟩ :: ⟨5, 1, none, 0, 0, ints .u8 ([]), false⟩ :: []) ?_ ?_
    ·
      refine wr_case 25 rfl (fun hc2 => ?_) (fun hc2 => ?_)
      ·
        refine wr_no rfl rfl rfl rfl ?_
        refine wr_no rfl rfl rfl rfl ?_
        refine wr_y rfl (y_pickT rfl rfl) ?_
        refine wr_nil ?_
        exact ⟨(Sub.cons rfl (Sub.to rfl (mb_t (by first | omega | exact ⟨fun h => ⟨(by assumption), h⟩, fun h => h.2⟩ | exact .inl (by assumption) | exact ⟨.inr, fun h => h.resolve_left (by assumption)⟩ | exact ⟨fun h => h.resolve_left (by assumption), .inr⟩ | simp [*])) Sub.nil)), fun _ h => h⟩
      ·
        refine wr_yes rfl rfl ?_
        refine wr_y rfl (y_move rfl) ?_
        refine wr_yes rfl rfl ?_
        refine wr_y rfl (y_gt rfl rfl) ?_
        refine wr_y rfl (y_pickF rfl rfl) ?_
        refine wr_nil ?_
        exact ⟨(Sub.cons rfl (Sub.to rfl (mb (by first | omega | exact ⟨fun h => ⟨(by assumption), h⟩, fun h => h.2⟩ | exact .inl (by assumption) | exact ⟨.inr, fun h => h.resolve_left (by assumption)⟩ | exact ⟨fun h => h.resolve_left (by assumption), .inr⟩ | simp [*])) Sub.nil)), fun _ h => h⟩
    refine wr_nil ?_
    refine w_if rfl (fun hc3 => ?_) (fun hc3 => ?_)
    ·
      refine w_seq ?_
      refine w_reg ?_
      refine wr_y rfl (y_assign rfl) ?_
      refine wr_y rfl (y_assign rfl) ?_
      refine wr_y rfl (y_assign rfl) ?_
      refine wr_nil ?_
      refine w_retR (R1 := [⟨5, 1, none, 0, 0, ints .u8 ([]), false⟩, ⟨3, 1, none, 0, 0, ints .i64 ([]), false⟩]) (fun _ h => (h.selR (F := [_, _]) (F' := [_, _]) [1, 0] (by decide) rfl).left (X := [_, _])) ?_
      refine ⟨_, _, _, rfl, rfl, rfl, ?_⟩
      exact ⟨_, _, _, _, [], [], 2, rfl, .inl ⟨rfl, by omega, rfl, rfl⟩, rfl⟩
    ·
      refine w_skip ?_
      refine w_seq ?_
      refine w_seq ?_
      refine w_reg ?_
      refine wr_y rfl (y_move rfl) ?_
      refine wr_a rfl (a_callF en17 rfl (Ct.quiet (fun w hw => containsE_ct ((h_ws.c _) w hw) (s_ws.c hw)))) ?_
      rintro _ _ ⟨rfl, rfl⟩
      refine wr_nil ?_
      refine w_if rfl (fun hc4 => ?_) (fun hc4 => ?_)
      ·
        refine w_seq ?_
        refine w_reg ?_
        refine wr_y rfl (y_assign rfl) ?_
        refine wr_y rfl (y_assign rfl) ?_
        refine wr_y rfl (y_assign rfl) ?_
        refine wr_nil ?_
        refine w_retR (R1 := [⟨5, 1, none, 0, 0, ints .u8 ([]), false⟩, ⟨3, 1, none, 0, 0, ints .i64 ([]), false⟩]) (fun _ h => (h.selR (F := [_, _]) (F' := [_, _]) [1, 0] (by decide) rfl).left (X := [_, _])) ?_
        refine ⟨_, _, _, rfl, rfl, rfl, ?_⟩
        exact ⟨_, _, _, _, [], [], 1, rfl, .inr (.inl ⟨by omega, rfl, hc4, rfl, rfl⟩), rfl⟩
      ·
        refine w_skip ?_
        refine w_seq ?_
        refine w_reg ?_
        refine wr_a rfl (a_litI .u8 [] Tryz.underlying23 zs5 rfl rfl rfl) ?_
        rintro _ _ ⟨g_7, rfl, rfl⟩
        refine wr_y rfl (y_assign rfl) ?_
        refine wr_nil ?_
        refine w_seq ?_
        refine w_seq ?_
        refine w_reg ?_
        refine wr_y rfl (y_move rfl) ?_
        refine wr_a rfl (a_callF en19 rfl (Ct.fresh (fun w hw => turns_ct ((h_ws.c _) w hw) (s_ws.c hw) ⟨by omega, by omega⟩))) ?_
        rintro _ _ ⟨_, rfl, lt, A_9, c_10, rfl, hpt, hst, rfl⟩
        refine wr_y rfl (y_len Tryz.underlying43 rfl) ?_
        refine wr_y rfl (y_move rfl) ?_
        refine wr_nil ?_
        refine w_block ?_
        refine w_loop5 (fun (q : Int) (B1 : Option Addr) (m1 : Nat) (d1 : Nat) (acc : List Int) => [(0, .slice A_ws ws.length c_ws), (2, .slice B1 m1 d1), (33, .slice A_9 lt.length c_10), (34, .int .i64 ((lt.length : Nat) : Int)), (35, .int .i64 q)]) (fun (q : Int) (B1 : Option Addr) (m1 : Nat) (d1 : Nat) (acc : List Int) => (⟨45, 2, A_9, lt.length, c_10, prs lt, false⟩ :: ⟨5, 1, B1, m1, d1, ints .u8 acc, false⟩ :: ⟨3, 1, none, 0, 0, ints .i64 ([]), false⟩ :: ⟨5, 1, none, 0, 0, ints .u8 ([]), false⟩ :: [])) (fun (q : Int) (B1 : Option Addr) (m1 : Nat) (d1 : Nat) (acc : List Int) => (0 ≤ q) ∧ (q ≤ lt.length) ∧ (m1 = acc.length) ∧ (acc.length = q.toNat) ∧ (acc = (lt.take q.toNat).map (lastB ws))) (fun (q : Int) (B1 : Option Addr) (m1 : Nat) (d1 : Nat) (acc : List Int) => (lt.length - q).toNat) ?_ ?_
        ·
          exact ⟨0, some ⟨g_7, 0, none⟩, 0, 0, [], ⟨(by omega), (by omega), (rfl), (rfl), (rfl)⟩, (Sub.cons rfl (Sub.cons rfl (Sub.cons rfl (Sub.cons rfl (Sub.cons rfl Sub.nil))))), fun _ h => h⟩
        intro q B1 m1 d1 acc ⟨hq0, hq1, hm1, haq, hacc⟩
        have hll := all_len hpt
        refine w_seq ?_
        refine w_reg ?_
        refine wr_y rfl (y_lt rfl rfl) ?_
        refine wr_nil ?_
        refine w_seq ?_
        refine w_if rfl (fun hc5 => ?_) (fun hc5 => ?_)
        ·
          have ht := mem_all.1 (hpt.subset (rdp_mem (l := lt) hq0 (by omega)))
          have htm := ht.2.2
          have he0 := Int.emod_nonneg ((rdp lt q).2 + (rdl ws (rdp lt q).1).length - 1) (show ((rdl ws (rdp lt q).1).length : Int) ≠ 0 by omega)
          have he1 := Int.emod_lt_of_pos ((rdp lt q).2 + (rdl ws (rdp lt q).1).length - 1) (show (0 : Int) < (rdl ws (rdp lt q).1).length by omega)
          refine w_skip ?_
          refine w_seq ?_
          refine w_block ?_
          refine w_seq ?_
          refine w_reg ?_
          refine wr_y rfl (y_index Tryz.underlying43 sz45 rfl rfl (rdr 0 rfl) rfl (by omega) (by omega)) ?_
          refine wr_y rfl (y_ldP Tryz.underlying45 rfl sz45 rfl (rdr 0 rfl) (by omega) (by omega)) ?_
          refine wr_a rfl (a_alloc (sz := 2) zz45 rfl) ?_
          rintro _ _ ⟨g_13, rfl, rfl⟩
          refine wr_rows (R1 := (⟨45, 2, (some ⟨g_13, 0, none⟩), 1, 1, [.int .i64 0, .int .i64 0], false⟩ :: ⟨45, 2, A_9, lt.length, c_10, prs lt, false⟩ :: ⟨5, 1, B1, m1, d1, ints .u8 acc, false⟩ :: ⟨3, 1, none, 0, 0, ints .i64 ([]), false⟩ :: ⟨5, 1, none, 0, 0, ints .u8 ([]), false⟩ :: [])) rfl ?_
          refine wr_n (a_storeAll (vs := [.int .i64 ((rdp lt q).1), .int .i64 ((rdp lt q).2)]) 0 rfl sz45 rfl rfl rfl (by intro v hv; simp at hv; rcases hv with rfl | rfl <;> rfl) rfl) ?_
          rintro _ _ rfl
          refine wr_rows (R1 := (⟨45, 2, (some ⟨g_13, 0, none⟩), 1, 1, [.int .i64 ((rdp lt q).1), .int .i64 ((rdp lt q).2)], false⟩ :: ⟨45, 2, A_9, lt.length, c_10, prs lt, false⟩ :: ⟨5, 1, B1, m1, d1, ints .u8 acc, false⟩ :: ⟨3, 1, none, 0, 0, ints .i64 ([]), false⟩ :: ⟨5, 1, none, 0, 0, ints .u8 ([]), false⟩ :: [])) rfl ?_
          refine wr_nil ?_
          refine w_seq ?_
          refine w_reg ?_
          refine wr_y rfl (y_move rfl) ?_
          refine wr_y rfl (y_indexIn (q := 0) (rdR 0 (r := ⟨45, 2, (some ⟨g_13, 0, none⟩), 1, 1, [.int .i64 ((rdp lt q).1), .int .i64 ((rdp lt q).2)], false⟩) rfl) Tryz.underlying45 sz3 rfl rfl (Nat.le_of_ble_eq_true rfl) (by decide) (by decide) rfl) ?_
          refine wr_y rfl (y_ldIn (rdR 0 (r := ⟨45, 2, (some ⟨g_13, 0, none⟩), 1, 1, [.int .i64 ((rdp lt q).1), .int .i64 ((rdp lt q).2)], false⟩) rfl) Tryz.underlying3 rfl rfl rfl) ?_
          refine wr_y rfl (y_index1 Tryz.underlying22 sz23 rfl rfl (h_ws.c _) (by first | exact ht.1 | exact ht.2.1) (by first | exact ht.1 | exact ht.2.1)) ?_
          refine s_ws.elim (i := (rdp lt q).1) (by first | exact ht.1 | exact ht.2.1) (by first | exact ht.1 | exact ht.2.1) (fun A_14 c_15 hv_16 hr_17 hb_18 mhr_17 => ?_)
          refine wr_y rfl (y_ld Tryz.underlying23 rfl rfl rfl (h_ws.c _) hv_16) ?_
          refine wr_y rfl (y_assign rfl) ?_
          refine wr_nil ?_
          refine w_reg ?_
          refine wr_y rfl (y_move rfl) ?_
          refine wr_y rfl (y_move rfl) ?_
          refine wr_y rfl (y_indexIn (q := 1) (rdR 0 (r := ⟨45, 2, (some ⟨g_13, 0, none⟩), 1, 1, [.int .i64 ((rdp lt q).1), .int .i64 ((rdp lt q).2)], false⟩) rfl) Tryz.underlying45 sz3 rfl rfl (Nat.le_of_ble_eq_true rfl) (by decide) (by decide) rfl) ?_
          refine wr_y rfl (y_ldIn (rdR 0 (r := ⟨45, 2, (some ⟨g_13, 0, none⟩), 1, 1, [.int .i64 ((rdp lt q).1), .int .i64 ((rdp lt q).2)], false⟩) rfl) Tryz.underlying3 rfl rfl rfl) ?_
          refine wr_y rfl (y_move rfl) ?_
          refine wr_y rfl (y_len Tryz.underlying23 rfl) ?_
          refine wr_y rfl (y_addI rfl rfl (by omega)) ?_
          refine wr_y rfl (y_subI rfl rfl (by omega)) ?_
          refine wr_y rfl (y_move rfl) ?_
          refine wr_y rfl (y_len Tryz.underlying23 rfl) ?_
          refine wr_y rfl (y_rem rfl rfl (by omega) (by omega)) ?_
          refine wr_y rfl (y_index1 Tryz.underlying23 sz5 rfl rfl (hr_17.c _) (by omega) (by omega)) ?_
          refine wr_y rfl (y_ldI Tryz.underlying5 rfl rfl (hr_17.c _) (by omega) (by omega)) ?_
          refine wr_a rfl (a_litI .u8 [rd (rdl ws ((rdp lt q).1)) (((((rdp lt q).2) + (((rdl ws ((rdp lt q).1)).length : Nat) : Int)) - 1) % (((rdl ws ((rdp lt q).1)).length : Nat) : Int))] Tryz.underlying23 zs5 rfl rfl rfl) ?_
          rintro _ _ ⟨g_20, rfl, rfl⟩
          refine wr_a rfl (a_appendI 3 rfl Tryz.underlying23 zb5 rfl rfl rfl (rdr 0 rfl) (by omega)) ?_
          rintro _ _ ⟨A_21, c_22, rfl, rfl⟩
          refine wr_rows (R1 := (⟨5, 1, (some ⟨g_20, 0, none⟩), 1, 1, ints .u8 ([rd (rdl ws ((rdp lt q).1)) (((((rdp lt q).2) + (((rdl ws ((rdp lt q).1)).length : Nat) : Int)) - 1) % (((rdl ws ((rdp lt q).1)).length : Nat) : Int))]), false⟩ :: ⟨45, 2, (some ⟨g_13, 0, none⟩), 1, 1, [.int .i64 ((rdp lt q).1), .int .i64 ((rdp lt q).2)], false⟩ :: ⟨45, 2, A_9, lt.length, c_10, prs lt, false⟩ :: ⟨5, 1, A_21, (m1 + 1), c_22, ints .u8 (acc ++ ([rd (rdl ws ((rdp lt q).1)) (((((rdp lt q).2) + (((rdl ws ((rdp lt q).1)).length : Nat) : Int)) - 1) % (((rdl ws ((rdp lt q).1)).length : Nat) : Int))])), false⟩ :: ⟨3, 1, none, 0, 0, ints .i64 ([]), false⟩ :: ⟨5, 1, none, 0, 0, ints .u8 ([]), false⟩ :: [])) rfl ?_
          refine wr_as (v := .slice A_21 (m1 + 1) c_22) rfl ?_
          refine wr_y rfl (y_assign rfl) ?_
          refine wr_nil ?_
          refine w_reg ?_
          refine wr_y rfl (y_addI rfl rfl (by omega)) ?_
          refine wr_y rfl (y_move rfl) ?_
          refine wr_nil ?_
          exact ⟨q + 1, A_21, m1 + 1, c_22, acc ++ ([rd (rdl ws ((rdp lt q).1)) (((((rdp lt q).2) + (((rdl ws ((rdp lt q).1)).length : Nat) : Int)) - 1) % (((rdl ws ((rdp lt q).1)).length : Nat) : Int))]), ⟨(by omega), (by omega), (by rw [List.length_append, hm1]; rfl), (by rw [List.length_append, haq, List.length_singleton]; omega), (by rw [take_rdp hq0 (by omega), List.map_append, hacc]; rfl)⟩, (by omega), (Sub.cons rfl (Sub.cons rfl (Sub.cons rfl (Sub.cons rfl (Sub.cons rfl Sub.nil))))), fun _ h => h.selR (F := [_, _, _, _, _, _]) (F' := [_, _, _, _]) [2, 3, 4, 5] (by decide) rfl⟩
        ·
          refine w_exit ?_
          refine w_seq ?_
          refine w_reg ?_
          refine wr_y rfl (y_move rfl) ?_
          refine wr_a rfl (a_callF en20 rfl (Ct.fresh (fun w hw => rootsN_ct ((h_ws.c _) w hw) (s_ws.c hw) hN))) ?_
          rintro _ _ ⟨_, rfl, A_23, c_24, A_25, c_26, vals_27, Rs_28, rfl, hsl_29, rfl⟩
          have hn_hsl_29 := hsl_29.1
          refine wr_sub (R1 := (⟨23, 1, A_23, vals_27.length, c_24, vals_27, false⟩ :: ⟨3, 1, A_25, ((ringS ws).map Prod.snd).length, c_26, ints .i64 ((ringS ws).map Prod.snd), false⟩ :: ⟨45, 2, A_9, lt.length, c_10, prs lt, false⟩ :: ⟨5, 1, B1, m1, d1, ints .u8 acc, false⟩ :: ⟨3, 1, none, 0, 0, ints .i64 ([]), false⟩ :: ⟨5, 1, none, 0, 0, ints .u8 ([]), false⟩ :: Rs_28)) (Sub.refl _) (fun _ h => Hp.toTail0 (X := [_, _]) (Y := [_, _, _, _]) h) ?_
          refine wr_y rfl (y_move rfl) ?_
          refine wr_y rfl (y_extract rfl rfl) ?_
          refine wr_y rfl (y_extract rfl rfl) ?_
          refine wr_y rfl (y_assign rfl) ?_
          refine wr_nil ?_
          refine w_seq ?_
          refine w_reg ?_
          refine wr_y rfl (y_move rfl) ?_
          refine wr_y rfl (y_move rfl) ?_
          refine wr_y rfl (y_assign rfl) ?_
          refine wr_y rfl (y_assign rfl) ?_
          refine wr_y rfl (y_assign rfl) ?_
          refine wr_nil ?_
          refine w_retR (R1 := [⟨5, 1, B1, m1, d1, ints .u8 acc, false⟩, ⟨3, 1, A_25, ((ringS ws).map Prod.snd).length, c_26, ints .i64 ((ringS ws).map Prod.snd), false⟩]) (fun _ h => (h.selR (F := [_, _, _, _, _, _]) (F' := [_, _]) [3, 1] (by decide) rfl).left (X := [_, _])) ?_
          refine ⟨_, _, _, rfl, rfl, rfl, ?_⟩
          rw [List.take_of_length_le (by omega)] at hacc
          obtain rfl := hm1
          exact ⟨_, _, _, _, acc, _, 0, rfl, .inr (.inr ⟨by omega, rfl, fun w hw => Nat.pos_of_ne_zero fun e => hc4 ⟨w, hw, e⟩, ⟨lt, hpt, hst, hacc⟩, rfl⟩), rfl⟩

theorem _root_.Go.Pure.ExtR.bytes {ws : List (List Int)} {L TS : List Int} {e : Int} (h : ExtR ws L TS e) (hb : ∀ w ∈ ws, ByteL w) : ByteL L := by
  rcases h with ⟨_, _, rfl, _⟩ | ⟨_, _, _, rfl, _⟩ | ⟨_, _, _, ⟨T, hp, _, rfl⟩, _⟩
  · exact ByteL.nil
  · exact ByteL.nil
  · exact lastB_bytes hp fun x hx => by
      obtain ⟨w, hw, h⟩ := List.mem_flatten.1 hx
      exact hb w hw x h
theorem _root_.Go.Pure.ExtR.tlen {ws : List (List Int)} {L TS : List Int} {e : Int} (h : ExtR ws L TS e) : TS.length ≤ ws.length := by
  rcases h with ⟨_, _, _, rfl⟩ | ⟨_, _, _, _, rfl⟩ | ⟨_, _, _, _, rfl⟩
  · exact Nat.zero_le _
  · exact Nat.zero_le _
  · rw [List.length_map, (ringS_perm ws).length_eq]; exact ringsOf_few ws
theorem _root_.Go.Pure.ExtR.code {ws : List (List Int)} {L TS : List Int} {e : Int} (h : ExtR ws L TS e) (hf : ws.flatten.length ≤ 100000) : (1000 < ws.length → e = 2) ∧ (ws.length ≤ 1000 → emptyP ws → e = 1) ∧ (ws.length ≤ 1000 → ¬ emptyP ws → e = 0) := by
  rcases h with ⟨rfl, c, _⟩ | ⟨c, rfl, d, _⟩ | ⟨c, rfl, d, _⟩
  · exact ⟨fun _ => rfl, fun h => by omega, fun h => by omega⟩
  · exact ⟨fun h => by omega, fun _ _ => rfl, fun _ h => absurd d h⟩
  · refine ⟨fun h => by omega, fun _ ⟨w, hw, e⟩ => ?_, fun _ _ => rfl⟩
    have := d w hw
    omega
set_option maxRecDepth 100000 in
set_option maxHeartbeats 600000 in
theorem long24_ct {w : World} {A_ws : Option Addr} {n_ws c_ws : Nat} {vals_ws : List Value} {ws : List (List Int)} (h_ws : Rd w A_ws n_ws c_ws 1 vals_ws) (s_ws : SlW .u8 w vals_ws ws) :
    Ct Tryz.prog 12 #[.slice A_ws n_ws c_ws] w.heap.size w [] (fun v R' => v = .bool (decide (longP 60 ws))) := by
  obtain rfl : n_ws = ws.length := by have := h_ws.len; have := s_ws.1; omega
  refine fn1 Tryz.func12 rfl rfl rfl ?_
  have m_ws := h_ws.max
  refine w_seq ?_
  refine w_reg ?_
  refine wr_y rfl (y_assign rfl) ?_
  refine wr_nil ?_
  refine w_seq ?_
  refine w_reg ?_
  refine wr_y rfl (y_assign rfl) ?_
  refine wr_nil ?_
  refine w_seq ?_
  refine w_seq ?_
  refine w_reg ?_
  refine wr_y rfl (y_assign rfl) ?_
  refine wr_nil ?_
  refine w_block ?_
  refine w_loop2 (fun (i : Int) (z : Int) => [(0, .slice A_ws ws.length c_ws), (3, .int .i64 z), (4, .int .i64 i)]) (fun (i : Int) (z : Int) => []) (fun (i : Int) (z : Int) => (0 ≤ i) ∧ (i ≤ ws.length) ∧ (i ≤ 40) ∧ (z = ((ws.take i.toNat).flatten.length : Int)) ∧ (0 ≤ z ∧ z ≤ i * 140737488355327)) (fun (i : Int) (z : Int) => (ws.length - i).toNat) ?_ ?_
  ·
    exact ⟨0, 0, ⟨(by omega), (by omega), (by omega), (rfl), (by omega)⟩, (Sub.cons rfl (Sub.cons rfl (Sub.cons rfl Sub.nil))), fun _ h => h⟩
  intro i z ⟨hi0, hi1, hi2, hz, hz2⟩
  refine w_seq ?_
  refine w_seq ?_
  refine w_reg ?_
  refine wr_y rfl (y_move rfl) ?_
  refine wr_y rfl (y_move rfl) ?_
  refine wr_y rfl (y_len Tryz.underlying22 rfl) ?_
  refine wr_y rfl (y_lt rfl rfl) ?_
  refine wr_y rfl (y_move rfl) ?_
  refine wr_mid 3 [(0, .slice A_ws ws.length c_ws), (3, .int .i64 z), (4, .int .i64 i), (12, .bool (decide ((i < ((ws.length : Nat) : Int)) ∧ (i < 40))))] [] ?_ ?_
  ·
    refine wr_case 9 rfl (fun hc1 => ?_) (fun hc1 => ?_)
    ·
      refine wr_yes rfl rfl ?_
      refine wr_y rfl (y_move rfl) ?_
      refine wr_yes rfl rfl ?_
      refine wr_y rfl (y_lt rfl rfl) ?_
      refine wr_y rfl (y_pickT rfl rfl) ?_
      refine wr_nil ?_
      exact ⟨(Sub.cons rfl (Sub.cons rfl (Sub.cons rfl (Sub.to rfl (mb (by first | omega | exact ⟨fun h => ⟨(by assumption), h⟩, fun h => h.2⟩ | exact .inl (by assumption) | exact ⟨.inr, fun h => h.resolve_left (by assumption)⟩ | exact ⟨fun h => h.resolve_left (by assumption), .inr⟩ | simp [*])) Sub.nil)))), fun _ h => h⟩
    ·
      refine wr_no rfl rfl rfl rfl ?_
      refine wr_no rfl rfl rfl rfl ?_
      refine wr_y rfl (y_pickF rfl rfl) ?_
      refine wr_nil ?_
      exact ⟨(Sub.cons rfl (Sub.cons rfl (Sub.cons rfl (Sub.to rfl (mb_f (by first | omega | exact ⟨fun h => ⟨(by assumption), h⟩, fun h => h.2⟩ | exact .inl (by assumption) | exact ⟨.inr, fun h => h.resolve_left (by assumption)⟩ | exact ⟨fun h => h.resolve_left (by assumption), .inr⟩ | simp [*])) Sub.nil)))), fun _ h => h⟩
  refine wr_nil ?_
  refine w_if rfl (fun hc2 => ?_) (fun hc2 => ?_)
  ·
    refine w_skip ?_
    refine w_seq ?_
    refine w_block ?_
    refine w_reg ?_
    refine wr_y rfl (y_move rfl) ?_
    refine wr_y rfl (y_move rfl) ?_
    refine wr_y rfl (y_move rfl) ?_
    refine wr_y rfl (y_index1 Tryz.underlying22 sz23 rfl rfl (h_ws.c _) (by omega) (by omega)) ?_
    refine s_ws.elim (i := i) (by omega) (by omega) (fun A_1 c_2 hv_3 hr_4 hb_5 mhr_4 => ?_)
    refine wr_y rfl (y_ld Tryz.underlying23 rfl rfl rfl (h_ws.c _) hv_3) ?_
    refine wr_y rfl (y_len Tryz.underlying23 rfl) ?_
    refine wr_y rfl (y_addI rfl rfl (by omega)) ?_
    refine wr_y rfl (y_assign rfl) ?_
    refine wr_nil ?_
    refine w_reg ?_
    refine wr_y rfl (y_move rfl) ?_
    refine wr_y rfl (y_addI rfl rfl (by omega)) ?_
    refine wr_y rfl (y_assign rfl) ?_
    refine wr_nil ?_
    exact ⟨i + 1, z + (((rdl ws i).length : Nat) : Int), ⟨(by omega), (by omega), (by omega), (by rw [flat_take_succ hi0 (by omega), List.length_append, hz]; omega), (by omega)⟩, (by omega), (Sub.cons rfl (Sub.cons rfl (Sub.cons rfl Sub.nil))), fun _ h => h⟩
  ·
    refine w_exit ?_
    refine w_seq ?_
    refine w_reg ?_
    refine wr_y rfl (y_move rfl) ?_
    refine wr_y rfl (y_gt rfl rfl) ?_
    refine wr_y rfl (y_move rfl) ?_
    refine wr_mid 4 [(28, .bool (decide ((60 < z) ∨ (30 < ((ws.length : Nat) : Int)))))] [] ?_ ?_
    ·
      refine wr_case 24 rfl (fun hc3 => ?_) (fun hc3 => ?_)
      ·
        refine wr_no rfl rfl rfl rfl ?_
        refine wr_no rfl rfl rfl rfl ?_
        refine wr_no rfl rfl rfl rfl ?_
        refine wr_y rfl (y_pickT rfl rfl) ?_
        refine wr_nil ?_
        exact ⟨(Sub.to rfl (mb_t (by first | omega | exact ⟨fun h => ⟨(by assumption), h⟩, fun h => h.2⟩ | exact .inl (by assumption) | exact ⟨.inr, fun h => h.resolve_left (by assumption)⟩ | exact ⟨fun h => h.resolve_left (by assumption), .inr⟩ | simp [*])) Sub.nil), fun _ h => h⟩
      ·
        refine wr_yes rfl rfl ?_
        refine wr_y rfl (y_move rfl) ?_
        refine wr_yes rfl rfl ?_
        refine wr_y rfl (y_len Tryz.underlying22 rfl) ?_
        refine wr_yes rfl rfl ?_
        refine wr_y rfl (y_gt rfl rfl) ?_
        refine wr_y rfl (y_pickF rfl rfl) ?_
        refine wr_nil ?_
        exact ⟨(Sub.to rfl (mb (by first | omega | exact ⟨fun h => ⟨(by assumption), h⟩, fun h => h.2⟩ | exact .inl (by assumption) | exact ⟨.inr, fun h => h.resolve_left (by assumption)⟩ | exact ⟨fun h => h.resolve_left (by assumption), .inr⟩ | simp [*])) Sub.nil), fun _ h => h⟩
    refine wr_y rfl (y_assign rfl) ?_
    refine wr_nil ?_
    refine w_ret ?_
    refine ⟨_, rfl, ?_⟩
    have e := long_take hi0 hi1 hi2 (by assumption)
    rw [e] at hz
    exact congrArg Value.bool (decide_eq_decide.2 (by unfold longP; omega))

theorem known_ext {L TS : List Int} {e : Int} (h : ExtR [[97, 98, 97, 98]] L TS e) : e = 0 ∧ L = [98, 98, 97, 97] ∧ TS = [2] := by
  rcases h with ⟨_, c, _⟩ | ⟨_, _, ⟨w, hw, e⟩, _⟩ | ⟨_, he, _, ⟨T, hp, ho, rfl⟩, rfl⟩
  · exact absurd c (by decide)
  · obtain rfl := List.mem_singleton.1 hw
    simp at e
  · refine ⟨he, ?_, ?_⟩
    · rw [the_order hp ho (m := [(0, 0), (0, 2), (0, 1), (0, 3)]) (by decide +kernel) (by decide +kernel)]
      decide +kernel
    · have h : [([97, 98], 2)] = ringS [[97, 98, 97, 98]] := ringS_one (show List.Perm _ [([97, 98], 2)] by decide) (by decide)
      rw [← h]
      rfl
set_option maxRecDepth 100000 in
set_option maxHeartbeats 800000 in
theorem known24_ct {w : World}  :
    Ct Tryz.prog 15 #[] w.heap.size w [] (fun v R' => v = .bool true) := by
  refine fn1 Tryz.func15 rfl rfl rfl ?_
  refine w_seq ?_
  refine w_reg ?_
  refine wr_y rfl (y_assign rfl) ?_
  refine wr_nil ?_
  refine w_seq ?_
  refine w_reg ?_
  refine wr_a rfl (a_litI .u8 [97, 98, 97, 98] Tryz.underlying23 zs5 rfl rfl rfl) ?_
  rintro _ _ ⟨g_2, rfl, rfl⟩
  refine wr_a rfl (a_mark 0 rfl rfl Tryz.underlying23 Tryz.underlying5 rfl rfl) ?_
  rintro _ _ ⟨rfl, rfl⟩
  refine wr_rows (R1 := [⟨5, 1, (some ⟨g_2, 0, none⟩), 4, 4, ints .u8 ([97, 98, 97, 98]), true⟩]) rfl ?_
  refine wr_a rfl (a_lit [Value.slice (some ⟨g_2, 0, none⟩) 4 4] Tryz.underlying22 zs23 rfl rfl rfl rfl) ?_
  rintro _ _ ⟨g_4, rfl, rfl⟩
  refine wr_a rfl (a_callF en7 rfl (Ct.fresh (fun w hw => extTurn_ct ((rdr 0 rfl) w hw) ((slw_none _ _).snoc ((rdr 1 rfl) w hw) (fun x hx => wf_byte ((by unfold ByteL; decide : ByteL ([97, 98, 97, 98])) x hx)) (by decide)) (by decide)))) ?_
  rintro _ _ ⟨_, rfl, A_5, A_7, c_6, c_8, Lk, TSk, ek, rfl, hxk, rfl⟩
  refine wr_y rfl (y_move rfl) ?_
  refine wr_y rfl (y_extract rfl rfl) ?_
  refine wr_y rfl (y_extract rfl rfl) ?_
  refine wr_y rfl (y_extract rfl rfl) ?_
  refine wr_y rfl (y_assign rfl) ?_
  refine wr_y rfl (y_assign rfl) ?_
  refine wr_y rfl (y_assign rfl) ?_
  refine wr_nil ?_
  refine w_seq ?_
  refine w_reg ?_
  refine wr_y rfl (y_move rfl) ?_
  refine wr_y rfl (Yl.t (y_eq rfl rfl) ((known_ext hxk).1)) ?_
  refine wr_y rfl (y_move rfl) ?_
  refine wr_yes rfl rfl ?_
  refine wr_y rfl (y_move rfl) ?_
  refine wr_yes rfl rfl ?_
  refine wr_y rfl (y_toStr Tryz.underlying23 Tryz.underlying5 Tryz.underlying9 rfl (rdr 0 rfl)) ?_
  refine wr_yes rfl rfl ?_
  refine wr_y rfl (Yl.t (y_eqL (q := [98, 98, 97, 97]) rfl rfl (hxk.bytes (by unfold ByteL; decide)) (by unfold ByteL; decide)) ((known_ext hxk).2.1)) ?_
  refine wr_y rfl (y_pickT rfl rfl) ?_
  refine wr_y rfl (y_move rfl) ?_
  refine wr_yes rfl rfl ?_
  refine wr_y rfl (y_move rfl) ?_
  refine wr_yes rfl rfl ?_
  refine wr_a rfl (a_litI .i64 [2] Tryz.underlying24 zs3 rfl rfl rfl) ?_
  rintro _ _ ⟨g_12, rfl, rfl⟩
  refine wr_yes rfl rfl ?_
  refine wr_a rfl (a_callF en14 rfl (Ct.quiet (fun w hw => ints4_ct ((rdr 2 rfl) w hw) ((rdr 0 rfl) w hw) (by have := hxk.tlen; simp at this; omega)))) ?_
  rintro _ _ ⟨rfl, rfl⟩
  refine wr_setT 22 rfl ((known_ext hxk).2.2) ?_
  refine wr_y rfl (y_pickT rfl rfl) ?_
  refine wr_y rfl (y_assign rfl) ?_
  refine wr_nil ?_
  refine w_retR (R1 := []) (fun _ h => h.sel [] (by decide) rfl) ?_
  refine ⟨_, rfl, ?_⟩
  rfl

end Go.Proofs.YtdfcnalkdlifiaaGreat

/-! ## E31 -/
namespace Go.Eng
open Go Go.RowKit Go.Pure
section
variable {P : Program} {n : Nd} {B : Nat} {w0 : World}
theorem w_loop16 {σ0 σ1 σ2 σ3 σ4 σ5 σ6 σ7 σ8 σ9 σ10 σ11 σ12 σ13 σ14 σ15 : Type} {c : Code} {Q : PostC} {L : Env} {R : List Row} (Lx : σ0 → σ1 → σ2 → σ3 → σ4 → σ5 → σ6 → σ7 → σ8 → σ9 → σ10 → σ11 → σ12 → σ13 → σ14 → σ15 → Env) (Rx : σ0 → σ1 → σ2 → σ3 → σ4 → σ5 → σ6 → σ7 → σ8 → σ9 → σ10 → σ11 → σ12 → σ13 → σ14 → σ15 → List Row) (J : σ0 → σ1 → σ2 → σ3 → σ4 → σ5 → σ6 → σ7 → σ8 → σ9 → σ10 → σ11 → σ12 → σ13 → σ14 → σ15 → Prop) (μ : σ0 → σ1 → σ2 → σ3 → σ4 → σ5 → σ6 → σ7 → σ8 → σ9 → σ10 → σ11 → σ12 → σ13 → σ14 → σ15 → Nat)
    (h0 : ∃ x0 x1 x2 x3 x4 x5 x6 x7 x8 x9 x10 x11 x12 x13 x14 x15, J x0 x1 x2 x3 x4 x5 x6 x7 x8 x9 x10 x11 x12 x13 x14 x15 ∧ Sub (Lx x0 x1 x2 x3 x4 x5 x6 x7 x8 x9 x10 x11 x12 x13 x14 x15) L ∧ ∀ w, Hp B w0 w R → Hp B w0 w (Rx x0 x1 x2 x3 x4 x5 x6 x7 x8 x9 x10 x11 x12 x13 x14 x15))
    (round : ∀ x0 x1 x2 x3 x4 x5 x6 x7 x8 x9 x10 x11 x12 x13 x14 x15, J x0 x1 x2 x3 x4 x5 x6 x7 x8 x9 x10 x11 x12 x13 x14 x15 → W P n B w0 c { Q with nrm := fun L' R' => ∃ y0 y1 y2 y3 y4 y5 y6 y7 y8 y9 y10 y11 y12 y13 y14 y15, J y0 y1 y2 y3 y4 y5 y6 y7 y8 y9 y10 y11 y12 y13 y14 y15 ∧ μ y0 y1 y2 y3 y4 y5 y6 y7 y8 y9 y10 y11 y12 y13 y14 y15 < μ x0 x1 x2 x3 x4 x5 x6 x7 x8 x9 x10 x11 x12 x13 x14 x15 ∧ Sub (Lx y0 y1 y2 y3 y4 y5 y6 y7 y8 y9 y10 y11 y12 y13 y14 y15) L' ∧ ∀ w, Hp B w0 w R' → Hp B w0 w (Rx y0 y1 y2 y3 y4 y5 y6 y7 y8 y9 y10 y11 y12 y13 y14 y15) } (Lx x0 x1 x2 x3 x4 x5 x6 x7 x8 x9 x10 x11 x12 x13 x14 x15) (Rx x0 x1 x2 x3 x4 x5 x6 x7 x8 x9 x10 x11 x12 x13 x14 x15)) : W P n B w0 (.loop c) Q L R := by
  obtain ⟨x0, x1, x2, x3, x4, x5, x6, x7, x8, x9, x10, x11, x12, x13, x14, x15, h1, h2, h3⟩ := h0
  refine w_loop (σ := σ0 × σ1 × σ2 × σ3 × σ4 × σ5 × σ6 × σ7 × σ8 × σ9 × σ10 × σ11 × σ12 × σ13 × σ14 × σ15) (fun p => Lx p.1 p.2.1 p.2.2.1 p.2.2.2.1 p.2.2.2.2.1 p.2.2.2.2.2.1 p.2.2.2.2.2.2.1 p.2.2.2.2.2.2.2.1 p.2.2.2.2.2.2.2.2.1 p.2.2.2.2.2.2.2.2.2.1 p.2.2.2.2.2.2.2.2.2.2.1 p.2.2.2.2.2.2.2.2.2.2.2.1 p.2.2.2.2.2.2.2.2.2.2.2.2.1 p.2.2.2.2.2.2.2.2.2.2.2.2.2.1 p.2.2.2.2.2.2.2.2.2.2.2.2.2.2.1 p.2.2.2.2.2.2.2.2.2.2.2.2.2.2.2) (fun p => Rx p.1 p.2.1 p.2.2.1 p.2.2.2.1 p.2.2.2.2.1 p.2.2.2.2.2.1 p.2.2.2.2.2.2.1 p.2.2.2.2.2.2.2.1 p.2.2.2.2.2.2.2.2.1 p.2.2.2.2.2.2.2.2.2.1 p.2.2.2.2.2.2.2.2.2.2.1 p.2.2.2.2.2.2.2.2.2.2.2.1 p.2.2.2.2.2.2.2.2.2.2.2.2.1 p.2.2.2.2.2.2.2.2.2.2.2.2.2.1 p.2.2.2.2.2.2.2.2.2.2.2.2.2.2.1 p.2.2.2.2.2.2.2.2.2.2.2.2.2.2.2) (fun p => J p.1 p.2.1 p.2.2.1 p.2.2.2.1 p.2.2.2.2.1 p.2.2.2.2.2.1 p.2.2.2.2.2.2.1 p.2.2.2.2.2.2.2.1 p.2.2.2.2.2.2.2.2.1 p.2.2.2.2.2.2.2.2.2.1 p.2.2.2.2.2.2.2.2.2.2.1 p.2.2.2.2.2.2.2.2.2.2.2.1 p.2.2.2.2.2.2.2.2.2.2.2.2.1 p.2.2.2.2.2.2.2.2.2.2.2.2.2.1 p.2.2.2.2.2.2.2.2.2.2.2.2.2.2.1 p.2.2.2.2.2.2.2.2.2.2.2.2.2.2.2) (fun p => μ p.1 p.2.1 p.2.2.1 p.2.2.2.1 p.2.2.2.2.1 p.2.2.2.2.2.1 p.2.2.2.2.2.2.1 p.2.2.2.2.2.2.2.1 p.2.2.2.2.2.2.2.2.1 p.2.2.2.2.2.2.2.2.2.1 p.2.2.2.2.2.2.2.2.2.2.1 p.2.2.2.2.2.2.2.2.2.2.2.1 p.2.2.2.2.2.2.2.2.2.2.2.2.1 p.2.2.2.2.2.2.2.2.2.2.2.2.2.1 p.2.2.2.2.2.2.2.2.2.2.2.2.2.2.1 p.2.2.2.2.2.2.2.2.2.2.2.2.2.2.2) ⟨(x0, x1, x2, x3, x4, x5, x6, x7, x8, x9, x10, x11, x12, x13, x14, x15), h1, h2, h3⟩ fun p hp => w_mono (round p.1 p.2.1 p.2.2.1 p.2.2.2.1 p.2.2.2.2.1 p.2.2.2.2.2.1 p.2.2.2.2.2.2.1 p.2.2.2.2.2.2.2.1 p.2.2.2.2.2.2.2.2.1 p.2.2.2.2.2.2.2.2.2.1 p.2.2.2.2.2.2.2.2.2.2.1 p.2.2.2.2.2.2.2.2.2.2.2.1 p.2.2.2.2.2.2.2.2.2.2.2.2.1 p.2.2.2.2.2.2.2.2.2.2.2.2.2.1 p.2.2.2.2.2.2.2.2.2.2.2.2.2.2.1 p.2.2.2.2.2.2.2.2.2.2.2.2.2.2.2 hp) ?_ (fun _ _ h => h) (fun _ _ _ h => h)
  rintro L' R' ⟨y0, y1, y2, y3, y4, y5, y6, y7, y8, y9, y10, y11, y12, y13, y14, y15, g1, g2, g3, g4⟩
  exact ⟨(y0, y1, y2, y3, y4, y5, y6, y7, y8, y9, y10, y11, y12, y13, y14, y15), ⟨g1, g2⟩, g3, g4⟩
def encS (r : RC) : Value := .slice r.A r.root.length r.c
theorem SlR.toRg {Rs : List Row} {vals : List Value} {ls : List (List Int)} (h : SlR .u8 Rs vals ls) (hb : ∀ l ∈ ls, ByteL l) : ∃ lr : List RC, vals = lr.map encS ∧ lr.map RC.root = ls ∧ RgR Rs lr := by
  obtain ⟨hl, h⟩ := h
  induction ls generalizing vals with
  | nil => exact ⟨[], by simpa using hl, rfl, RgR.nil _⟩
  | cons l ls ih =>
    rcases vals with _ | ⟨v, vals⟩
    · simp at hl
    obtain ⟨A, c, h1, h2⟩ := h 0 (by simp)
    obtain ⟨lr, e1, e2, e3⟩ := ih (vals := vals) (fun q hq => hb q (.tail _ hq)) (by simpa using hl) (fun j hj => by
      obtain ⟨A, c, h1, h2⟩ := h (j + 1) (by simp; omega)
      exact ⟨A, c, by simpa using h1, by simpa using h2⟩)
    simp only [List.getElem?_cons_zero, Option.some.injEq, List.getD_cons_zero] at h1 h2
    refine ⟨⟨A, c, l, 0⟩ :: lr, by rw [h1, e1]; rfl, by rw [← e2]; rfl, fun r hr => ?_⟩
    rcases List.mem_cons.1 hr with rfl | hr
    · exact ⟨hb _ (.head _), h2⟩
    · exact e3 r hr
theorem RgR.toSl {Rs : List Row} {lr : List RC} (h : RgR Rs lr) : SlR .u8 Rs (lr.map encS) (lr.map RC.root) := by
  refine ⟨by simp, fun j hj => ?_⟩
  rw [List.length_map] at hj
  refine ⟨lr[j].A, lr[j].c, ?_, ?_⟩
  · rw [List.getElem?_map, List.getElem?_eq_getElem hj, List.getD_eq_getElem?_getD, List.getElem?_map, List.getElem?_eq_getElem hj]
    rfl
  · rw [List.getD_eq_getElem?_getD, List.getElem?_map, List.getElem?_eq_getElem hj]
    exact (h _ (List.getElem_mem hj)).2
theorem encS_one (x : RC) : (encS x).oneCell' = true := rfl
theorem cmpL_swo : Go.Sort.SWO (Go.Proofs.ltOf fun x y : RC => cmpL x.root y.root) := by
  have e : ∀ x y : RC, Go.Proofs.ltOf (fun x y : RC => cmpL x.root y.root) x y = true ↔ cmpL x.root y.root < 0 := fun x y => by simp [Go.Proofs.ltOf]
  have e' : ∀ x y : RC, Go.Proofs.ltOf (fun x y : RC => cmpL x.root y.root) x y = false ↔ cmpL y.root x.root ≤ 0 := fun x y => by
    rw [← Bool.not_eq_true, e, cmpL_anti x.root y.root]; omega
  refine ⟨fun x => ?_, fun x y z h1 h2 => ?_, fun x y z h1 h2 => ?_⟩
  · rw [e', (cmpL_eq x.root x.root).2 rfl]; omega
  · rw [e] at h1 h2 ⊢
    have h3 := cmpL_le x.root y.root z.root (by omega) (by omega)
    rcases Int.lt_or_eq_of_le h3 with g | g
    · exact g
    · have g2 := (cmpL_eq _ _).1 g
      rw [g2, cmpL_anti y.root z.root] at h1
      omega
  · rw [e'] at h1 h2 ⊢
    exact cmpL_le _ _ _ h2 h1
theorem cmpL_one {a b : List (List Int)} (hp : a.Perm b) (ha : a.Pairwise fun x y => cmpL x y ≤ 0) (hb : b.Pairwise fun x y => cmpL x y ≤ 0) : a = b :=
  hp.eq_of_pairwise (fun x y _ _ h1 h2 => (cmpL_eq x y).1 (by rw [cmpL_anti x y] at h2; omega)) ha hb
end
end Go.Eng
namespace Go.Eng
open Go Go.RowKit
section
variable {P : Program} {n : Nd} {B : Nat} {w0 : World} {ops : Array Oper} {K : Env → List Row → Prop} {L : Env} {R R1 : List Row}
/-- Rows told in another order, in a drawn region. -/
theorem wd_iff {fuel : Nat} {listed : Array Bool} (h : ∀ w, Hp B w0 w R ↔ Hp B w0 w R1) (k : WD P n B w0 ops K fuel listed L R1) : WD P n B w0 ops K fuel listed L R := by
  intro a w Q hs hp hpan hq
  have e : (fun w => Hp B w0 w R) = (fun w => Hp B w0 w R1) := funext fun w => propext (h w)
  rw [e]
  exact k a w Q hs ((h w).1 hp) hpan hq
theorem Hp.toTailI {w : World} {X Rs Y T : List Row} : Hp B w0 w ((X ++ Rs) ++ (Y ++ T)) ↔ Hp B w0 w (X ++ (Y ++ (Rs ++ T))) := by
  have hp : ((X ++ Rs) ++ (Y ++ T)).Perm (X ++ (Y ++ (Rs ++ T))) := by
    rw [List.append_assoc]
    refine List.Perm.append_left X ?_
    rw [← List.append_assoc, ← List.append_assoc]
    exact List.Perm.append_right T List.perm_append_comm
  exact ⟨fun h => h.perm hp, fun h => h.perm hp.symm⟩
end
end Go.Eng

/-! ## X2 -/
namespace Go.Proofs.YtdfcnalkdlifiaaGreat
open Go Go.Eng Go.Pure
set_option linter.unusedVariables false
theorem sortsRows (cb : Array Value) : SortsC Tryz.prog 40 41 cb := fun α _ enc h1 cf hO blk off cap d w hcmp hH hblk hsz =>
  Any.slices_SortFunc Tryz.laysRow enc h1 cf hO 41 cb blk off cap d w en41 hcmp hH hblk hsz
theorem sortsRows0 : SortsNone Tryz.prog 40 := fun p cap fv w => AnyF.slices_SortFunc_none { Tryz.laysRow with } p cap fv w
theorem roots_step {l : List Int} {cs : List (List Int)} {ls : List (List Int)} {acc : List Int} {i : Int} (h0 : 0 ≤ i) (h1 : i < cs.length) (h : ls = (cs.take i.toNat).map (wordC l)) (ha : acc = [] ++ ((rdl cs i).reverse.take (rdl cs i).length).map (rd l)) : ls ++ [acc] = (cs.take (i + 1).toNat).map (wordC l) := by
  rw [cw_step (wordC l) h0 h1, ← h, ha, List.nil_append, List.take_of_length_le (by rw [List.length_reverse]; omega)]
  rfl
theorem words_ok {u : List Int} (h : ByteL u) (hN : u.length ≤ 1000000 := by omega) : OkB ((cycL (fsL u)).map (wordC u)) := fun l hl => by
  obtain ⟨c, hc, rfl⟩ := List.mem_map.1 hl
  refine ⟨fun x hx => by obtain ⟨y, hy, rfl⟩ := List.mem_map.1 hx; exact h.rd y, ?_⟩
  have hfp := fsL_perm h
  have h1 := List.Sublist.length_le (List.sublist_flatten_of_mem hc)
  have h2 := cycL_len hfp
  have h3 := fsL_len u
  rw [wordC_len]
  omega
set_option maxRecDepth 100000 in
set_option maxHeartbeats 2000000 in
theorem extRoots_ct {w : World} {A_u : Option Addr} {n_u c_u : Nat} {u : List Int} (h_u : Rd w A_u n_u c_u 1 (ints .u8 u)) (bh_u : ByteL u) (hN : u.length ≤ 1000000) :
    Ct Tryz.prog 21 #[.slice A_u n_u c_u] w.heap.size w [] (fun v R' => ∃ (A : Option Addr) (c : Nat) (vals : List Value) (Rs : List Row), v = .slice A vals.length c ∧ SlR .u8 Rs vals (((cycL (fsL u)).map (wordC u))) ∧ R' = ⟨23, 1, A, vals.length, c, vals, false⟩ :: Rs) := by
  obtain rfl := h_u.lenI
  refine fnV Tryz.func21 rfl rfl ?_
  have m_u := h_u.max
  have hfp := fsL_perm bh_u
  have hfl := fsL_len u
  have hcl0 := cycL_len hfp
  have hcf := cyc_count (p := fsL u)
  refine v_seqW ?_
  refine w_reg ?_
  refine wr_a rfl (a_box (sz := 1) rfl rfl) ?_
  rintro _ _ ⟨g_1, rfl, rfl⟩
  refine wr_rows (R1 := (⟨23, 1, (some ⟨g_1, 0, none⟩), 1, 1, [.slice A_u u.length c_u], false⟩ :: [])) rfl ?_
  refine wr_sub (R1 := (⟨23, 1, none, 0, 0, [], false⟩ :: ⟨23, 1, (some ⟨g_1, 0, none⟩), 1, 1, [.slice A_u u.length c_u], false⟩ :: [])) (Sub.refl _) (fun _ h => h.nil 23 1) ?_
  refine wr_y rfl (y_assign rfl) ?_
  refine wr_nil ?_
  refine v_seqW ?_
  refine w_reg ?_
  refine wr_y rfl (y_ldIn (rdR 1 (r := ⟨23, 1, (some ⟨g_1, 0, none⟩), 1, 1, [.slice A_u u.length c_u], false⟩) rfl) Tryz.underlying23 rfl rfl rfl) ?_
  refine wr_a rfl (a_callF en38 rfl (Ct.fresh (fun w hw => lfOf_ct ((h_u.c _) w hw) bh_u hN))) ?_
  rintro _ _ ⟨_, rfl, A_3, c_4, rfl, rfl⟩
  refine wr_a rfl (a_callF en37 rfl (Ct.fresh (fun w hw => cycles_ct ((rdr 0 rfl) w hw) hfp (by omega)))) ?_
  rintro _ _ ⟨_, rfl, A_6, c_7, vals_8, Rs_9, rfl, hsl_10, rfl⟩
  have hn_hsl_10 := hsl_10.1
  refine wr_sub (R1 := (⟨24, 1, A_6, vals_8.length, c_7, vals_8, false⟩ :: ⟨3, 1, A_3, (fsL u).length, c_4, ints .i64 (fsL u), false⟩ :: ⟨23, 1, none, 0, 0, [], false⟩ :: ⟨23, 1, (some ⟨g_1, 0, none⟩), 1, 1, [.slice A_u u.length c_u], false⟩ :: Rs_9)) (Sub.refl _) (fun _ h => Hp.toTail0 (X := [_]) (Y := [_, _, _]) h) ?_
  refine wr_y rfl (y_move rfl) ?_
  refine wr_y rfl (y_extract rfl rfl) ?_
  refine wr_y rfl (y_extract rfl rfl) ?_
  refine wr_y rfl (y_assign rfl) ?_
  refine wr_y rfl (y_assign rfl) ?_
  refine wr_nil ?_
  refine v_seqW ?_
  refine w_reg ?_
  refine wr_sub (R1 := (⟨23, 1, none, 0, 0, [], false⟩ :: ⟨24, 1, A_6, vals_8.length, c_7, vals_8, false⟩ :: ⟨3, 1, A_3, (fsL u).length, c_4, ints .i64 (fsL u), false⟩ :: ⟨23, 1, none, 0, 0, [], false⟩ :: ⟨23, 1, (some ⟨g_1, 0, none⟩), 1, 1, [.slice A_u u.length c_u], false⟩ :: Rs_9)) (Sub.refl _) (fun _ h => h.nil 23 1) ?_
  refine wr_y rfl (y_assign rfl) ?_
  refine wr_nil ?_
  refine v_seq ?_
  refine v_seqW ?_
  refine w_reg ?_
  refine wr_y rfl (y_move rfl) ?_
  refine wr_y rfl (y_len Tryz.underlying59 rfl) ?_
  refine wr_y rfl (y_move rfl) ?_
  refine wr_nil ?_
  refine v_block ?_
  refine v_loop7 (fun (i : Int) (A1 : Option Addr) (n1 : Nat) (c1 : Nat) (vals : List Value) (ls : List (List Int)) (Rs : List Row) => [(1, .pointer (some ⟨g_1, 0, none⟩)), (5, .slice A1 n1 c1), (17, .slice A_6 vals_8.length c_7), (18, .int .i64 ((vals_8.length : Nat) : Int)), (19, .int .i64 i)]) (fun (i : Int) (A1 : Option Addr) (n1 : Nat) (c1 : Nat) (vals : List Value) (ls : List (List Int)) (Rs : List Row) => (⟨23, 1, A1, n1, c1, vals, false⟩ :: ⟨24, 1, A_6, vals_8.length, c_7, vals_8, false⟩ :: ⟨3, 1, A_3, (fsL u).length, c_4, ints .i64 (fsL u), false⟩ :: ⟨23, 1, none, 0, 0, [], false⟩ :: ⟨23, 1, (some ⟨g_1, 0, none⟩), 1, 1, [.slice A_u u.length c_u], false⟩ :: Rs)) (fun (i : Int) (A1 : Option Addr) (n1 : Nat) (c1 : Nat) (vals : List Value) (ls : List (List Int)) (Rs : List Row) => (0 ≤ i) ∧ (i ≤ vals_8.length) ∧ (n1 = vals.length) ∧ (SlR .u8 Rs vals ls) ∧ (SlR .i64 Rs vals_8 (cycL (fsL u))) ∧ (ls = ((cycL (fsL u)).take i.toNat).map (wordC u))) (fun (i : Int) (A1 : Option Addr) (n1 : Nat) (c1 : Nat) (vals : List Value) (ls : List (List Int)) (Rs : List Row) => (vals_8.length - i).toNat) ?_ Gd.refl ?_
  ·
    exact ⟨0, none, 0, 0, [], [], Rs_9, ⟨(by omega), (by omega), (rfl), (SlR.nilR _ _), (hsl_10), (rfl)⟩, (Sub.cons rfl (Sub.cons rfl (Sub.cons rfl (Sub.cons rfl (Sub.cons rfl Sub.nil))))), fun _ h => h⟩
  intro i A1 n1 c1 vals ls Rs dsW1 WW1 ⟨hi0, hi1, hn1, hsl, hcy, hls⟩ hbW1 hGW1
  have hcl := hcy.1
  have hsn := hsl.1
  have hll := congrArg List.length hls
  rw [List.length_map, List.length_take] at hll
  have hcm0 : 0 ≤ i → i < (cycL (fsL u)).length → rdl (cycL (fsL u)) i ∈ cycL (fsL u) := fun h h' => cyc_mem h h'
  refine v_seqW ?_
  refine w_reg ?_
  refine wr_y rfl (y_lt rfl rfl) ?_
  refine wr_nil ?_
  refine v_seqW ?_
  refine w_if rfl (fun hc2 => ?_) (fun hc2 => ?_)
  ·
    refine w_skip ?_
    refine v_seq ?_
    refine v_block ?_
    refine v_seqW ?_
    refine w_reg ?_
    refine wr_y rfl (y_index1 Tryz.underlying59 sz24 rfl rfl (rdr 1 rfl) (by omega) (by omega)) ?_
    obtain ⟨A_11, c_12, hv_13, hr_14⟩ := hcy.at (i := i) (by omega) (by omega)
    refine wr_y rfl (y_ld Tryz.underlying24 rfl rfl rfl (rdr 1 rfl) hv_13) ?_
    refine wr_y rfl (y_assign rfl) ?_
    refine wr_nil ?_
    refine v_seqW ?_
    refine w_reg ?_
    refine wr_a rfl (a_alloc (sz := 1) zz23 rfl) ?_
    rintro _ _ ⟨g_15, rfl, rfl⟩
    refine wr_sub (R1 := (⟨5, 1, none, 0, 0, ints .u8 ([]), false⟩ :: ⟨23, 1, (some ⟨g_15, 0, none⟩), 1, 1, [.slice none 0 0], false⟩ :: ⟨23, 1, A1, n1, c1, vals, false⟩ :: ⟨24, 1, A_6, vals_8.length, c_7, vals_8, false⟩ :: ⟨3, 1, A_3, (fsL u).length, c_4, ints .i64 (fsL u), false⟩ :: ⟨23, 1, none, 0, 0, [], false⟩ :: ⟨23, 1, (some ⟨g_1, 0, none⟩), 1, 1, [.slice A_u u.length c_u], false⟩ :: Rs)) (Sub.refl _) (fun _ h => h.nil 5 1) ?_
    refine wr_nil ?_
    refine v_seq ?_
    refine v_seqW ?_
    refine w_reg ?_
    refine wr_y rfl (y_move rfl) ?_
    refine wr_a rfl (a_callF en39 rfl (backInts_ct)) ?_
    rintro _ _ ⟨g_16, rfl, rfl⟩
    refine wr_nil ?_
    refine v_block ?_
    have hcm := hcm0 hi0 (by omega)
    have hcl2 : (rdl (cycL (fsL u)) i).length ≤ u.length := by have := List.Sublist.length_le (List.sublist_flatten_of_mem hcm); omega
    refine v_range4 rfl en68 (back0_ints (A := A_11) (c := c_12) (zs := rdl (cycL (fsL u)) i) (by omega)) rfl (fun _ => rfl) hGW1 (fun (kr : Nat) (A2 : Option Addr) (n2 : Nat) (c2 : Nat) (acc : List Int) => (⟨24, 1, (some ⟨g_16, 0, none⟩), 1, 1, [.slice A_11 ((rdl (cycL (fsL u)) i).length) c_12], false⟩ :: ⟨5, 1, A2, n2, c2, ints .u8 acc, false⟩ :: ⟨23, 1, (some ⟨g_15, 0, none⟩), 1, 1, [.slice A2 n2 c2], false⟩ :: ⟨23, 1, A1, n1, c1, vals, false⟩ :: ⟨24, 1, A_6, vals_8.length, c_7, vals_8, false⟩ :: ⟨3, 1, A_3, (fsL u).length, c_4, ints .i64 (fsL u), false⟩ :: ⟨23, 1, none, 0, 0, [], false⟩ :: ⟨23, 1, (some ⟨g_1, 0, none⟩), 1, 1, [.slice A_u u.length c_u], false⟩ :: Rs)) (fun (kr : Nat) (A2 : Option Addr) (n2 : Nat) (c2 : Nat) (acc : List Int) => (n2 = acc.length) ∧ (acc = [] ++ ((rdl (cycL (fsL u)) i).reverse.take kr).map (rd u))) ?_ ?_ ?_ ?_
    ·
      exact ⟨none, 0, 0, [], ⟨(rfl), (by rw [List.take_zero]; rfl)⟩, fun _ h => h⟩
    ·
      intro kr A2 n2 c2 acc w ⟨hn2, hacc⟩ hw
      exact ⟨(rdR 0 (r := ⟨24, 1, (some ⟨g_16, 0, none⟩), 1, 1, [.slice A_11 ((rdl (cycL (fsL u)) i).length) c_12], false⟩) rfl) w hw, (fun _ h => hr_14 _ _ _ (h.right (R' := [_, _, _, _, _, _, _, _]))) w hw⟩
    ·
      intro lr kr A2 n2 c2 acc WW3 hkr ⟨hn2, hacc⟩ hbW3
      have hel := cycL_in hfp _ hcm _ (rd_mem (L := rdl (cycL (fsL u)) i) (k := (((rdl (cycL (fsL u)) i).length - 1 - kr : Nat) : Int)) (by omega) (by omega))
      have hal2 : acc.length ≤ (rdl (cycL (fsL u)) i).length := by rw [hacc, List.nil_append, List.length_map, List.length_take, List.length_reverse]; omega
      refine w_reg ?_
      refine wr_y rfl (y_assign rfl) ?_
      refine wr_nil ?_
      intro WW33 hbW33
      refine w_block ?_
      refine w_regd mixed ?_
      refine wd_y 0 rfl (by kernel_rfl) rfl (y_ldIn (rdR 2 (r := ⟨23, 1, (some ⟨g_15, 0, none⟩), 1, 1, [.slice A2 n2 c2], false⟩) rfl) Tryz.underlying23 rfl rfl rfl) ?_
      refine wd_y 1 rfl (by kernel_rfl) rfl (y_ldIn (rdR 7 (r := ⟨23, 1, (some ⟨g_1, 0, none⟩), 1, 1, [.slice A_u u.length c_u], false⟩) rfl) Tryz.underlying23 rfl rfl rfl) ?_
      refine wd_y 2 rfl (by kernel_rfl) rfl (y_move rfl) ?_
      refine wd_y 3 rfl (by kernel_rfl) rfl (y_index1 Tryz.underlying23 sz5 rfl rfl (h_u.cb (hbW1.trans hbW33) _) (by omega) (by omega)) ?_
      refine wd_y 4 rfl (by kernel_rfl) rfl (y_ldI Tryz.underlying5 rfl rfl (h_u.cb (hbW1.trans hbW33) _) (by omega) (by omega)) ?_
      refine wd_a 5 rfl (by kernel_rfl) rfl (a_litI .u8 [rd u (rd (rdl (cycL (fsL u)) i) (((rdl (cycL (fsL u)) i).length - 1 - kr : Nat) : Int))] Tryz.underlying23 zs5 rfl rfl rfl) ?_
      rintro _ _ ⟨g_19, rfl, rfl⟩
      refine ⟨.inr fun _ h => h.right (R' := [_]), ?_⟩
      refine wd_a 6 rfl (by kernel_rfl) rfl (a_appendI 2 rfl Tryz.underlying23 zb5 rfl rfl rfl (rdr 0 rfl) (by omega)) ?_
      rintro _ _ ⟨A_20, c_21, rfl, rfl⟩
      refine ⟨.inl (by kernel_rfl), ?_⟩
      refine wd_rows (R1 := (⟨5, 1, (some ⟨g_19, 0, none⟩), 1, 1, ints .u8 ([rd u (rd (rdl (cycL (fsL u)) i) (((rdl (cycL (fsL u)) i).length - 1 - kr : Nat) : Int))]), false⟩ :: ⟨24, 1, (some ⟨g_16, 0, none⟩), 1, 1, [.slice A_11 ((rdl (cycL (fsL u)) i).length) c_12], false⟩ :: ⟨5, 1, A_20, (n2 + 1), c_21, ints .u8 (acc ++ ([rd u (rd (rdl (cycL (fsL u)) i) (((rdl (cycL (fsL u)) i).length - 1 - kr : Nat) : Int))])), false⟩ :: ⟨23, 1, (some ⟨g_15, 0, none⟩), 1, 1, [.slice A2 n2 c2], false⟩ :: ⟨23, 1, A1, n1, c1, vals, false⟩ :: ⟨24, 1, A_6, vals_8.length, c_7, vals_8, false⟩ :: ⟨3, 1, A_3, (fsL u).length, c_4, ints .i64 (fsL u), false⟩ :: ⟨23, 1, none, 0, 0, [], false⟩ :: ⟨23, 1, (some ⟨g_1, 0, none⟩), 1, 1, [.slice A_u u.length c_u], false⟩ :: Rs)) rfl ?_
      refine wd_as (v := .slice A_20 (n2 + 1) c_21) rfl ?_
      refine wd_n 7 rfl (by kernel_rfl) (a_storeAt 3 rfl rfl rfl sz23 rfl rfl rfl rfl (Nat.le_of_ble_eq_true rfl)) ?_
      rintro _ _ rfl
      refine ⟨.inl (by kernel_rfl), ?_⟩
      refine wd_rows (R1 := (⟨5, 1, (some ⟨g_19, 0, none⟩), 1, 1, ints .u8 ([rd u (rd (rdl (cycL (fsL u)) i) (((rdl (cycL (fsL u)) i).length - 1 - kr : Nat) : Int))]), false⟩ :: ⟨24, 1, (some ⟨g_16, 0, none⟩), 1, 1, [.slice A_11 ((rdl (cycL (fsL u)) i).length) c_12], false⟩ :: ⟨5, 1, A_20, (n2 + 1), c_21, ints .u8 (acc ++ ([rd u (rd (rdl (cycL (fsL u)) i) (((rdl (cycL (fsL u)) i).length - 1 - kr : Nat) : Int))])), false⟩ :: ⟨23, 1, (some ⟨g_15, 0, none⟩), 1, 1, [.slice A_20 (n2 + 1) c_21], false⟩ :: ⟨23, 1, A1, n1, c1, vals, false⟩ :: ⟨24, 1, A_6, vals_8.length, c_7, vals_8, false⟩ :: ⟨3, 1, A_3, (fsL u).length, c_4, ints .i64 (fsL u), false⟩ :: ⟨23, 1, none, 0, 0, [], false⟩ :: ⟨23, 1, (some ⟨g_1, 0, none⟩), 1, 1, [.slice A_u u.length c_u], false⟩ :: Rs)) rfl ?_
      refine wd_nil (by kernel_rfl) ?_
      exact ⟨A_20, (n2 + 1), c_21, acc ++ ([rd u (rd (rdl (cycL (fsL u)) i) (((rdl (cycL (fsL u)) i).length - 1 - kr : Nat) : Int))]), ⟨(by rw [List.length_append, hn2]; rfl), (word_inner hkr hacc)⟩, fun _ => fun _ h => h.selR (F := [_, _, _, _, _, _, _, _, _]) (F' := [_, _, _, _, _, _, _, _]) [1, 2, 3, 4, 5, 6, 7, 8] (by decide) rfl⟩
    intro WW35 DW3 A2 n2 c2 acc ⟨hn2, hacc⟩ hbW35 hGW35
    refine v_goB ?_
    refine v_go ?_
    refine v_w ?_
    refine w_reg ?_
    refine wr_y rfl (y_move rfl) ?_
    refine wr_y rfl (y_ldIn (rdR 2 (r := ⟨23, 1, (some ⟨g_15, 0, none⟩), 1, 1, [.slice A2 n2 c2], false⟩) rfl) Tryz.underlying23 rfl rfl rfl) ?_
    refine wr_a rfl (a_lit [Value.slice A2 n2 c2] Tryz.underlying22 zs23 rfl rfl rfl rfl) ?_
    rintro _ _ ⟨g_23, rfl, rfl⟩
    refine wr_a rfl (a_append 4 rfl rfl Tryz.underlying22 zb23 rfl rfl rfl rfl rfl (rdr 0 rfl) (by simp [Value.oneCell']) (by dsimp only; omega)) ?_
    rintro _ _ ⟨A_24, c_25, rfl, rfl⟩
    refine wr_rows (R1 := (⟨23, 1, (some ⟨g_23, 0, none⟩), 1, 1, [Value.slice A2 n2 c2], false⟩ :: ⟨24, 1, (some ⟨g_16, 0, none⟩), 1, 1, [.slice A_11 ((rdl (cycL (fsL u)) i).length) c_12], false⟩ :: ⟨5, 1, A2, n2, c2, ints .u8 acc, false⟩ :: ⟨23, 1, (some ⟨g_15, 0, none⟩), 1, 1, [.slice A2 n2 c2], false⟩ :: ⟨23, 1, A_24, (n1 + 1), c_25, vals ++ ([Value.slice A2 n2 c2]), false⟩ :: ⟨24, 1, A_6, vals_8.length, c_7, vals_8, false⟩ :: ⟨3, 1, A_3, (fsL u).length, c_4, ints .i64 (fsL u), false⟩ :: ⟨23, 1, none, 0, 0, [], false⟩ :: ⟨23, 1, (some ⟨g_1, 0, none⟩), 1, 1, [.slice A_u u.length c_u], false⟩ :: Rs)) rfl ?_
    refine wr_as (v := .slice A_24 (n1 + 1) c_25) rfl ?_
    refine wr_y rfl (y_assign rfl) ?_
    refine wr_nil ?_
    refine v_goB ?_
    refine v_go ?_
    refine v_w ?_
    refine w_reg ?_
    refine wr_y rfl (y_addI rfl rfl (by omega)) ?_
    refine wr_y rfl (y_move rfl) ?_
    refine wr_nil ?_
    refine v_again7 (Lx := fun (i : Int) (A1 : Option Addr) (n1 : Nat) (c1 : Nat) (vals : List Value) (ls : List (List Int)) (Rs : List Row) => [(1, .pointer (some ⟨g_1, 0, none⟩)), (5, .slice A1 n1 c1), (17, .slice A_6 vals_8.length c_7), (18, .int .i64 ((vals_8.length : Nat) : Int)), (19, .int .i64 i)]) (Rx := fun (i : Int) (A1 : Option Addr) (n1 : Nat) (c1 : Nat) (vals : List Value) (ls : List (List Int)) (Rs : List Row) => (⟨23, 1, A1, n1, c1, vals, false⟩ :: ⟨24, 1, A_6, vals_8.length, c_7, vals_8, false⟩ :: ⟨3, 1, A_3, (fsL u).length, c_4, ints .i64 (fsL u), false⟩ :: ⟨23, 1, none, 0, 0, [], false⟩ :: ⟨23, 1, (some ⟨g_1, 0, none⟩), 1, 1, [.slice A_u u.length c_u], false⟩ :: Rs)) (J := fun (i : Int) (A1 : Option Addr) (n1 : Nat) (c1 : Nat) (vals : List Value) (ls : List (List Int)) (Rs : List Row) => (0 ≤ i) ∧ (i ≤ vals_8.length) ∧ (n1 = vals.length) ∧ (SlR .u8 Rs vals ls) ∧ (SlR .i64 Rs vals_8 (cycL (fsL u))) ∧ (ls = ((cycL (fsL u)).take i.toNat).map (wordC u))) (μ := fun (i : Int) (A1 : Option Addr) (n1 : Nat) (c1 : Nat) (vals : List Value) (ls : List (List Int)) (Rs : List Row) => (vals_8.length - i).toNat) (hbW1.trans hbW35) hGW35 ?_
    exact ⟨i + 1, A_24, n1 + 1, c_25, vals ++ ([Value.slice A2 n2 c2]), (ls ++ [acc]), (⟨5, 1, A2, n2, c2, ints .u8 acc, false⟩ :: Rs), ⟨(by omega), (by omega), (by rw [List.length_append, hn1]; rfl), (hsl.snoc hn2), (hcy.right [_]), (roots_step hi0 (by omega) hls hacc)⟩, (by omega), (Sub.cons rfl (Sub.cons rfl (Sub.cons rfl (Sub.cons rfl (Sub.cons rfl Sub.nil))))), fun _ h => h.selR (F := [_, _, _, _, _, _, _, _, _]) (F' := [_, _, _, _, _, _]) [4, 5, 6, 7, 8, 2] (by decide) rfl⟩
  ·
    obtain rfl : ls = ((cycL (fsL u)).map (wordC u)) := by rw [hls, List.take_of_length_le (by omega)]
    have hbw : ∀ l ∈ ((cycL (fsL u)).map (wordC u)), ByteL l := fun l hl => by obtain ⟨c, hc, rfl⟩ := List.mem_map.1 hl; intro x hx; obtain ⟨y, hy, rfl⟩ := List.mem_map.1 hx; exact bh_u.rd y
    obtain ⟨lr, rfl, hlr, hrg⟩ := hsl.toRg hbw
    rw [List.length_map] at hn1
    obtain rfl := hn1
    have hlrn := congrArg List.length hlr
    rw [List.length_map, List.length_map] at hlrn
    refine w_exit ?_
    refine v_exit ?_
    refine v_exL ?_
    refine v_exB ?_
    refine v_go ?_
    refine v_w ?_
    refine w_seq ?_
    refine w_reg ?_
    refine wr_y rfl (y_move rfl) ?_
    refine wr_a rfl (a_callF en40 rfl (sort_cell1 (enc := encS) (sortsRows _) sortsRows0 encS_one (l := lr) 0 rfl (by omega) (fun x y => cmpL x.root y.root) cmpL_swo (fun W hW x hx y hy => compareBB_ct ((hrg x hx).2 _ _ _ (hW.right (R' := [_, _, _, _]))) ((hrg y hy).2 _ _ _ (hW.right (R' := [_, _, _, _]))) (hrg x hx).1 (hrg y hy).1))) ?_
    rintro _ _ ⟨rfl, l1, hp1, hs1, rfl⟩
    rw [← hp1.length_eq]
    refine wr_rows (R1 := (⟨23, 1, A1, l1.length, c1, (l1.map encS), false⟩ :: ⟨24, 1, A_6, vals_8.length, c_7, vals_8, false⟩ :: ⟨3, 1, A_3, (fsL u).length, c_4, ints .i64 (fsL u), false⟩ :: ⟨23, 1, none, 0, 0, [], false⟩ :: ⟨23, 1, (some ⟨g_1, 0, none⟩), 1, 1, [.slice A_u u.length c_u], false⟩ :: Rs)) rfl ?_
    refine wr_nil ?_
    refine w_seq ?_
    refine w_reg ?_
    refine wr_y rfl (y_move rfl) ?_
    refine wr_y rfl (y_assign rfl) ?_
    refine wr_nil ?_
    refine w_retR (R1 := (⟨23, 1, A1, l1.length, c1, (l1.map encS), false⟩ :: Rs)) (fun _ h => h.selR (F := [_, _, _, _, _]) (F' := [_]) [0] (by decide) rfl) ?_
    refine fin1 rfl hGW1 ⟨_, rfl, ?_⟩
    have hfin : l1.map RC.root = ((cycL (fsL u)).map (wordC u)) := cmpL_one ((hp1.map RC.root).trans (by rw [hlr])) (List.pairwise_map.2 (hs1.imp fun {a b} h => by rw [cmpL_anti a.root b.root] at h; omega)) (wordC_up bh_u)
    exact ⟨_, _, l1.map encS, Rs, by rw [List.length_map], by rw [← hfin]; exact (hrg.perm hp1).toSl, by rw [List.length_map]⟩

theorem block_eq {all : List (List Int)} {n : Int} (hs : all.Pairwise fun a b => cmpL a b ≤ 0) (n1 : 1 ≤ n) (hn : n ≤ all.length) (hq : rdl all (n - 1) = rdl all 0) : all.take n.toNat = List.replicate n.toNat (rdl all 0) := by
  have hg : ∀ i : Int, 0 ≤ i → (hi : i < all.length) → rdl all i = all[i.toNat]'(by omega) := fun i h0 hi => by
    unfold rdl
    rw [List.getD_eq_getElem?_getD, List.getElem?_eq_getElem (by omega)]
    rfl
  have hle : ∀ i j, (hi : i < all.length) → (hj : j < all.length) → i ≤ j → cmpL all[i] all[j] ≤ 0 := fun i j hi hj h => by
    rcases Nat.lt_or_ge i j with g | g
    · exact List.pairwise_iff_getElem.1 hs i j hi hj g
    · obtain rfl : i = j := by omega
      rw [(cmpL_eq _ _).2 rfl]; omega
  refine List.ext_getElem (by rw [List.length_take, List.length_replicate]; omega) fun i h1 h2 => ?_
  rw [List.length_take] at h1
  rw [List.getElem_take, List.getElem_replicate]
  have a1 := hle 0 i (by omega) (by omega) (Nat.zero_le _)
  have a2 := hle i (n - 1).toNat (by omega) (by omega) (by omega)
  rw [← hg (n - 1) (by omega) (by omega), hq] at a2
  have e0 : rdl all 0 = all[0]'(by omega) := hg 0 (by omega) (by omega)
  rw [← e0, cmpL_anti all[i]] at a1
  exact (cmpL_eq _ _).1 (by omega)
theorem block_len {all : List (List Int)} {n : Int} {r : List Int} (h : all.take n.toNat = List.replicate n.toNat r) : n.toNat * r.length ≤ all.flatten.length := by
  have h1 := congrArg (fun x : List (List Int) => x.flatten.length) h
  have h2 : (List.replicate n.toNat r).flatten.length = n.toNat * r.length := by simp
  simp only [h2] at h1
  have h3 := flat_le (ws := all) n.toNat
  omega
theorem be_bad1 {als : List (List Int)} {last tm : List Int} {many i : Int} (h0 : 0 ≤ i) (h1 : i < tm.length) (hb : rd tm i < 1 ∨ (als.length : Int) < rd tm i) : backE als last many (tm.drop i.toNat) = none := by
  rw [rd_drop_cons h0 h1, backE, if_pos hb]
theorem be_bad2 {als : List (List Int)} {last tm : List Int} {many i : Int} (h0 : 0 ≤ i) (h1 : i < tm.length) (hc : rdl als (rd tm i - 1) ≠ rdl als 0 ∨ last = rdl als 0 ∧ rd tm i < many) : backE als last many (tm.drop i.toNat) = none := by
  rw [rd_drop_cons h0 h1, backE]
  by_cases hb : rd tm i < 1 ∨ (als.length : Int) < rd tm i
  · rw [if_pos hb]
  · rw [if_neg hb, if_pos hc]
theorem be_go {als ls : List (List Int)} {last tm : List Int} {many i : Int} {o : Option (List (List Int))} (h0 : 0 ≤ i) (h1 : i < tm.length) (hb : ¬ (rd tm i < 1 ∨ (als.length : Int) < rd tm i)) (hc : ¬ (rdl als (rd tm i - 1) ≠ rdl als 0 ∨ last = rdl als 0 ∧ rd tm i < many)) (h : o = (backE als last many (tm.drop i.toNat)).map fun p => ls ++ p) :
    o = (backE (als.drop (rd tm i).toNat) (rdl als 0) (rd tm i) (tm.drop (i + 1).toNat)).map fun p => (ls ++ [rep (rdl als 0) (rd tm i)]) ++ p := by
  rw [h, rd_drop_cons h0 h1, backE, if_neg hb, if_neg hc, Option.map_map]
  congr 1
  funext p
  simp
def oE (o : Option (List (List Int))) : Int := if o.isSome then 0 else 5
theorem be_end {als ls : List (List Int)} {last tm : List Int} {many i : Int} {o : Option (List (List Int))} (hi : (tm.length : Int) ≤ i) (h : o = (backE als last many (tm.drop i.toNat)).map fun p => ls ++ p) : (0 < als.length → o = none) ∧ (¬ 0 < als.length → o = some ls) := by
  rw [List.drop_of_length_le (by omega), backE] at h
  constructor
  · intro c
    rw [h, if_pos c]; rfl
  · intro c
    rw [h, if_neg c]; simp
theorem drop_flat {ws : List (List Int)} {k M : Nat} (h : ws.flatten.length ≤ M) : (ws.drop k).flatten.length ≤ M := by
  have : ws.flatten = (ws.take k).flatten ++ (ws.drop k).flatten := by rw [← List.flatten_append, List.take_append_drop]
  rw [this, List.length_append] at h
  omega
theorem words_8 {u : List Int} (h : ByteL u) (hN : u.length ≤ 8000) {a : List Int} (ha : a ∈ (cycL (fsL u)).map (wordC u)) : ByteL a ∧ 0 < a.length ∧ a.length ≤ 8000 := by
  have h1 := words_ok h (by omega) a ha
  have h2 := ((LynB_iff a).1 (wordC_lyn h a ha)).1
  have h3 := List.Sublist.length_le (List.sublist_flatten_of_mem ha)
  have h4 : ((cycL (fsL u)).map (wordC u)).flatten.length = u.length := cycW_flat h
  exact ⟨h1.1, h2, by omega⟩
set_option maxRecDepth 100000 in
set_option maxHeartbeats 4000000 in
theorem extBack_ct {w : World} {A_u : Option Addr} {n_u c_u : Nat} {u : List Int} {A_tm : Option Addr} {n_tm c_tm : Nat} {tm : List Int} (h_u : Rd w A_u n_u c_u 1 (ints .u8 u)) (h_tm : Rd w A_tm n_tm c_tm 1 (ints .i64 tm)) (bh_u : ByteL u) (hN : u.length ≤ 8000 ∧ tm.length ≤ 1000) :
    Ct Tryz.prog 8 #[.slice A_u n_u c_u, .slice A_tm n_tm c_tm] w.heap.size w [] (fun v R' => ∃ (A : Option Addr) (c : Nat) (vals : List Value) (Rs : List Row), v = .tuple #[.slice A vals.length c, .int .i64 (oE (backE ((cycL (fsL u)).map (wordC u)) [] 0 tm))] ∧ SlR .u8 Rs vals ((backE ((cycL (fsL u)).map (wordC u)) [] 0 tm).getD []) ∧ R' = ⟨23, 1, A, vals.length, c, vals, false⟩ :: Rs) := by
  obtain rfl := h_u.lenI
  obtain rfl := h_tm.lenI
  refine fn2 Tryz.func8 rfl rfl rfl ?_
  have m_u := h_u.max
  have m_tm := h_tm.max
  refine w_seq ?_
  refine w_reg ?_
  refine wr_sub (R1 := (⟨23, 1, none, 0, 0, [], false⟩ :: [])) (Sub.refl _) (fun _ h => h.nil 23 1) ?_
  refine wr_y rfl (y_assign rfl) ?_
  refine wr_y rfl (y_assign rfl) ?_
  refine wr_nil ?_
  refine w_seq ?_
  refine w_seq ?_
  refine w_reg ?_
  refine wr_y rfl (y_move rfl) ?_
  refine wr_y rfl (y_len Tryz.underlying23 rfl) ?_
  refine wr_y rfl (Yl.f (y_gt rfl rfl) (by omega)) ?_
  refine wr_y rfl (y_move rfl) ?_
  refine wr_yes rfl rfl ?_
  refine wr_y rfl (y_move rfl) ?_
  refine wr_yes rfl rfl ?_
  refine wr_y rfl (y_len Tryz.underlying24 rfl) ?_
  refine wr_yes rfl rfl ?_
  refine wr_y rfl (Yl.f (y_gt rfl rfl) (by omega)) ?_
  refine wr_y rfl (y_pickF rfl rfl) ?_
  refine wr_nil ?_
  refine w_false rfl ?_
  refine w_skip ?_
  refine w_seq ?_
  refine w_reg ?_
  refine wr_y rfl (y_move rfl) ?_
  refine wr_a rfl (a_callF en21 rfl (Ct.fresh (fun w hw => extRoots_ct ((h_u.c _) w hw) bh_u (by omega)))) ?_
  rintro _ _ ⟨_, rfl, A_1, c_2, vals_3, Rs_4, rfl, hsl_5, rfl⟩
  have hn_hsl_5 := hsl_5.1
  refine wr_sub (R1 := (⟨23, 1, A_1, vals_3.length, c_2, vals_3, false⟩ :: ⟨23, 1, none, 0, 0, [], false⟩ :: Rs_4)) (Sub.refl _) (fun _ h => Hp.toTail0 (X := [_]) (Y := [_]) h) ?_
  refine wr_y rfl (y_assign rfl) ?_
  refine wr_nil ?_
  refine w_seq ?_
  refine w_reg ?_
  refine wr_a rfl (a_lit [] Tryz.underlying22 zs23 rfl rfl rfl rfl) ?_
  rintro _ _ ⟨g_7, rfl, rfl⟩
  refine wr_y rfl (y_assign rfl) ?_
  refine wr_nil ?_
  refine w_seq ?_
  refine w_reg ?_
  refine wr_y rfl (y_assign rfl) ?_
  refine wr_nil ?_
  refine w_seq ?_
  refine w_reg ?_
  refine wr_y rfl (y_assign rfl) ?_
  refine wr_nil ?_
  refine w_seq ?_
  refine w_seq ?_
  refine w_reg ?_
  refine wr_y rfl (y_move rfl) ?_
  refine wr_y rfl (y_len Tryz.underlying24 rfl) ?_
  refine wr_y rfl (y_move rfl) ?_
  refine wr_nil ?_
  refine w_block ?_
  refine w_loop16 (fun (i : Int) (A1 : Option Addr) (n1 : Nat) (c1 : Nat) (vals : List Value) (ls : List (List Int)) (A6 : Option Addr) (n6 : Nat) (c6 : Nat) (avals : List Value) (als : List (List Int)) (AL : Option Addr) (cL : Nat) (last : List Int) (many : Int) (Rs : List Row) => [(6, .slice A6 n6 c6), (7, .slice A1 n1 c1), (8, .slice AL last.length cL), (9, .int .i64 many), (24, .slice A_tm tm.length c_tm), (25, .int .i64 ((tm.length : Nat) : Int)), (26, .int .i64 i)]) (fun (i : Int) (A1 : Option Addr) (n1 : Nat) (c1 : Nat) (vals : List Value) (ls : List (List Int)) (A6 : Option Addr) (n6 : Nat) (c6 : Nat) (avals : List Value) (als : List (List Int)) (AL : Option Addr) (cL : Nat) (last : List Int) (many : Int) (Rs : List Row) => (⟨23, 1, A1, n1, c1, vals, false⟩ :: ⟨23, 1, none, 0, 0, [], false⟩ :: Rs)) (fun (i : Int) (A1 : Option Addr) (n1 : Nat) (c1 : Nat) (vals : List Value) (ls : List (List Int)) (A6 : Option Addr) (n6 : Nat) (c6 : Nat) (avals : List Value) (als : List (List Int)) (AL : Option Addr) (cL : Nat) (last : List Int) (many : Int) (Rs : List Row) => (0 ≤ i) ∧ (i ≤ tm.length) ∧ (n1 = vals.length) ∧ (SlR .u8 Rs vals ls) ∧ ((ls.length : Int) = i) ∧ (n6 = avals.length) ∧ (∀ (B : Nat) (w0 w : World), Hp B w0 w Rs → Rd w A6 n6 c6 1 avals) ∧ (SlR .u8 Rs avals als) ∧ (∀ (B : Nat) (w0 w : World), Hp B w0 w Rs → Rd w AL last.length cL 1 (ints .u8 last)) ∧ (∀ a ∈ als, ByteL a ∧ 0 < a.length ∧ a.length ≤ 8000) ∧ (ByteL last) ∧ (als.Pairwise fun a b => cmpL a b ≤ 0) ∧ (als.flatten.length ≤ 8000) ∧ (als.length ≤ 8000) ∧ ((backE ((cycL (fsL u)).map (wordC u)) [] 0 tm) = (backE als last many (tm.drop i.toNat)).map fun p => ls ++ p)) (fun (i : Int) (A1 : Option Addr) (n1 : Nat) (c1 : Nat) (vals : List Value) (ls : List (List Int)) (A6 : Option Addr) (n6 : Nat) (c6 : Nat) (avals : List Value) (als : List (List Int)) (AL : Option Addr) (cL : Nat) (last : List Int) (many : Int) (Rs : List Row) => (tm.length - i).toNat) ?_ ?_
  ·
    exact ⟨0, some ⟨g_7, 0, none⟩, 0, 0, [], [], A_1, vals_3.length, c_2, vals_3, ((cycL (fsL u)).map (wordC u)), none, 0, [], 0, (⟨23, 1, A_1, vals_3.length, c_2, vals_3, false⟩ :: Rs_4), ⟨(by omega), (by omega), (rfl), (SlR.nilR _ _), (rfl), (rfl), (fun _ _ _ h => rdr 0 rfl _ h), (hsl_5.right [_]), (fun _ _ _ _ => rd_none .u8), (fun a ha => words_8 bh_u (by omega) ha), (ByteL.nil), (wordC_up bh_u), (by have := cycW_flat bh_u; show (((cycL (fsL u)).map (wordC u))).flatten.length ≤ 8000; exact Nat.le_trans (Nat.le_of_eq this) (by omega)), (by rw [List.length_map]; have := cyc_count (p := fsL u); have := fsL_len u; omega), (by simp)⟩, (Sub.cons rfl (Sub.cons rfl (Sub.cons rfl (Sub.cons rfl (Sub.cons rfl (Sub.cons rfl (Sub.cons rfl Sub.nil))))))), fun _ h => h.selR (F := [_, _, _]) (F' := [_, _, _]) [0, 2, 1] (by decide) rfl⟩
  intro i A1 n1 c1 vals ls A6 n6 c6 avals als AL cL last many Rs ⟨hi0, hi1, hn1, hsl, hln, hn6, hall, hasl, hlast, hok, hlb, hsrt, hfl, ha8, hbe⟩
  have hsn := hsl.1
  have han := hasl.1
  refine w_seq ?_
  refine w_reg ?_
  refine wr_y rfl (y_lt rfl rfl) ?_
  refine wr_nil ?_
  refine w_seq ?_
  refine w_if rfl (fun hc1 => ?_) (fun hc1 => ?_)
  ·
    refine w_skip ?_
    refine w_seq ?_
    refine w_block ?_
    refine w_seq ?_
    refine w_reg ?_
    refine wr_y rfl (y_index1 Tryz.underlying24 sz3 rfl rfl (h_tm.c _) (by omega) (by omega)) ?_
    refine wr_y rfl (y_ldI Tryz.underlying3 rfl rfl (h_tm.c _) (by omega) (by omega)) ?_
    refine wr_y rfl (y_assign rfl) ?_
    refine wr_nil ?_
    refine w_seq ?_
    refine w_seq ?_
    refine w_reg ?_
    refine wr_y rfl (y_move rfl) ?_
    refine wr_y rfl (y_lt rfl rfl) ?_
    refine wr_y rfl (y_move rfl) ?_
    refine wr_mid 5 [(6, .slice A6 n6 c6), (7, .slice A1 n1 c1), (8, .slice AL last.length cL), (9, .int .i64 many), (11, .int .i64 (rd tm i)), (24, .slice A_tm tm.length c_tm), (25, .int .i64 ((tm.length : Nat) : Int)), (26, .int .i64 i), (37, .bool (decide (((rd tm i) < 1) ∨ (((n6 : Nat) : Int) < (rd tm i)))))] (⟨23, 1, A1, n1, c1, vals, false⟩ :: ⟨23, 1, none, 0, 0, [], false⟩ :: Rs) ?_ ?_
    ·
      refine wr_case 32 rfl (fun hc2 => ?_) (fun hc2 => ?_)
      ·
        refine wr_no rfl rfl rfl rfl ?_
        refine wr_no rfl rfl rfl rfl ?_
        refine wr_no rfl rfl rfl rfl ?_
        refine wr_no rfl rfl rfl rfl ?_
        refine wr_y rfl (y_pickT rfl rfl) ?_
        refine wr_nil ?_
        exact ⟨(Sub.cons rfl (Sub.cons rfl (Sub.cons rfl (Sub.cons rfl (Sub.cons rfl (Sub.cons rfl (Sub.cons rfl (Sub.cons rfl (Sub.to rfl (mb_t (by first | omega | exact ⟨fun h => ⟨(by assumption), h⟩, fun h => h.2⟩ | exact .inl (by assumption) | exact ⟨.inr, fun h => h.resolve_left (by assumption)⟩ | exact ⟨fun h => h.resolve_left (by assumption), .inr⟩ | simp [*])) Sub.nil))))))))), fun _ h => h⟩
      ·
        refine wr_yes rfl rfl ?_
        refine wr_y rfl (y_move rfl) ?_
        refine wr_yes rfl rfl ?_
        refine wr_y rfl (y_move rfl) ?_
        refine wr_yes rfl rfl ?_
        refine wr_y rfl (y_len Tryz.underlying22 rfl) ?_
        refine wr_yes rfl rfl ?_
        refine wr_y rfl (y_gt rfl rfl) ?_
        refine wr_y rfl (y_pickF rfl rfl) ?_
        refine wr_nil ?_
        exact ⟨(Sub.cons rfl (Sub.cons rfl (Sub.cons rfl (Sub.cons rfl (Sub.cons rfl (Sub.cons rfl (Sub.cons rfl (Sub.cons rfl (Sub.to rfl (mb (by first | omega | exact ⟨fun h => ⟨(by assumption), h⟩, fun h => h.2⟩ | exact .inl (by assumption) | exact ⟨.inr, fun h => h.resolve_left (by assumption)⟩ | exact ⟨fun h => h.resolve_left (by assumption), .inr⟩ | simp [*])) Sub.nil))))))))), fun _ h => h⟩
    refine wr_nil ?_
    refine w_if rfl (fun hc3 => ?_) (fun hc3 => ?_)
    ·
      refine w_seq ?_
      refine w_reg ?_
      refine wr_y rfl (y_assign rfl) ?_
      refine wr_y rfl (y_assign rfl) ?_
      refine wr_nil ?_
      refine w_retR (R1 := (⟨23, 1, none, 0, 0, [], false⟩ :: Rs)) (fun _ h => h.selR (F := [_, _]) (F' := [_]) [1] (by decide) rfl) ?_
      refine ⟨_, _, rfl, rfl, ?_⟩
      have hO : (backE ((cycL (fsL u)).map (wordC u)) [] 0 tm) = none := by rw [hbe, be_bad1 hi0 (by omega) (by omega)]; rfl
      rw [hO]
      exact ⟨none, 0, [], _, rfl, SlR.nilR _ _, rfl⟩
    ·
      have hb1 : ¬ (rd tm i < 1 ∨ (als.length : Int) < rd tm i) := by omega
      have hr0 := hok _ (rdl_mem2 (ws := als) (i := 0) (by omega) (by omega))
      have hrn := hok _ (rdl_mem2 (ws := als) (i := rd tm i - 1) (by omega) (by omega))
      refine w_skip ?_
      refine w_seq ?_
      refine w_reg ?_
      refine wr_y rfl (y_move rfl) ?_
      refine wr_y rfl (y_index1 Tryz.underlying22 sz23 rfl rfl (fun _ h => hall _ _ _ (h.right (R' := [_, _]))) (by omega) (by omega)) ?_
      obtain ⟨A_9, c_10, hv_11, hr_12⟩ := hasl.at (i := 0) (by omega) (by omega)
      refine wr_y rfl (y_ld Tryz.underlying23 rfl rfl rfl (fun _ h => hall _ _ _ (h.right (R' := [_, _]))) hv_11) ?_
      refine wr_y rfl (y_assign rfl) ?_
      refine wr_nil ?_
      refine w_seq ?_
      refine w_seq ?_
      refine w_reg ?_
      refine wr_y rfl (y_move rfl) ?_
      refine wr_y rfl (y_move rfl) ?_
      refine wr_y rfl (y_subI rfl rfl (by omega)) ?_
      refine wr_y rfl (y_index1 Tryz.underlying22 sz23 rfl rfl (fun _ h => hall _ _ _ (h.right (R' := [_, _]))) (by omega) (by omega)) ?_
      obtain ⟨A_13, c_14, hv_15, hr_16⟩ := hasl.at (i := (rd tm i) - 1) (by omega) (by omega)
      refine wr_y rfl (y_ld Tryz.underlying23 rfl rfl rfl (fun _ h => hall _ _ _ (h.right (R' := [_, _]))) hv_15) ?_
      refine wr_y rfl (y_move rfl) ?_
      refine wr_a rfl (a_callF en22 rfl (Ct.quiet (fun w hw => equalB_ct ((fun _ h => hr_16 _ _ _ (h.right (R' := [_, _]))) w hw) ((fun _ h => hr_12 _ _ _ (h.right (R' := [_, _]))) w hw) hrn.1 hr0.1))) ?_
      rintro _ _ ⟨rfl, rfl⟩
      refine wr_y rfl (y_notD rfl) ?_
      refine wr_y rfl (y_move rfl) ?_
      refine wr_mid 9 [(6, .slice A6 n6 c6), (7, .slice A1 n1 c1), (11, .int .i64 (rd tm i)), (12, .slice A_9 ((rdl als 0).length) c_10), (24, .slice A_tm tm.length c_tm), (25, .int .i64 ((tm.length : Nat) : Int)), (26, .int .i64 i), (58, .bool (decide ((¬ ((rdl als ((rd tm i) - 1)) = (rdl als 0))) ∨ ((last = (rdl als 0)) ∧ ((rd tm i) < many)))))] (⟨23, 1, A1, n1, c1, vals, false⟩ :: ⟨23, 1, none, 0, 0, [], false⟩ :: Rs) ?_ ?_
      ·
        refine wr_case 49 rfl (fun hc4 => ?_) (fun hc4 => ?_)
        ·
          refine wr_no rfl rfl rfl rfl ?_
          refine wr_no rfl rfl rfl rfl ?_
          refine wr_no rfl rfl rfl rfl ?_
          refine wr_no rfl rfl rfl rfl ?_
          refine wr_nou rfl rfl rfl ?_
          refine wr_nou rfl rfl rfl ?_
          refine wr_nou rfl rfl rfl ?_
          refine wr_no rfl rfl rfl rfl ?_
          refine wr_y rfl (y_pickT rfl rfl) ?_
          refine wr_nil ?_
          exact ⟨(Sub.cons rfl (Sub.cons rfl (Sub.cons rfl (Sub.cons rfl (Sub.cons rfl (Sub.cons rfl (Sub.cons rfl (Sub.to rfl (mb_t (by first | omega | exact ⟨fun h => ⟨(by assumption), h⟩, fun h => h.2⟩ | exact .inl (by assumption) | exact ⟨.inr, fun h => h.resolve_left (by assumption)⟩ | exact ⟨fun h => h.resolve_left (by assumption), .inr⟩ | simp [*])) Sub.nil)))))))), fun _ h => h⟩
        ·
          refine wr_yes rfl rfl ?_
          refine wr_y rfl (y_move rfl) ?_
          refine wr_yes rfl rfl ?_
          refine wr_y rfl (y_move rfl) ?_
          refine wr_yes rfl rfl ?_
          refine wr_a rfl (a_callF en22 rfl (Ct.quiet (fun w hw => equalB_ct ((fun _ h => hlast _ _ _ (h.right (R' := [_, _]))) w hw) ((fun _ h => hr_12 _ _ _ (h.right (R' := [_, _]))) w hw) hlb hr0.1))) ?_
          rintro _ _ ⟨rfl, rfl⟩
          refine wr_yes rfl rfl ?_
          refine wr_y rfl (y_move rfl) ?_
          refine wr_mid 4 [(6, .slice A6 n6 c6), (7, .slice A1 n1 c1), (11, .int .i64 (rd tm i)), (12, .slice A_9 ((rdl als 0).length) c_10), (24, .slice A_tm tm.length c_tm), (25, .int .i64 ((tm.length : Nat) : Int)), (26, .int .i64 i), (49, .bool false), (57, .bool (decide ((last = (rdl als 0)) ∧ ((rd tm i) < many))))] (⟨23, 1, A1, n1, c1, vals, false⟩ :: ⟨23, 1, none, 0, 0, [], false⟩ :: Rs) ?_ ?_
          ·
            refine wr_case 53 rfl (fun hc5 => ?_) (fun hc5 => ?_)
            ·
              refine wr_yes rfl rfl ?_
              refine wr_y rfl (y_move rfl) ?_
              refine wr_yes rfl rfl ?_
              refine wr_y rfl (y_move rfl) ?_
              refine wr_yes rfl rfl ?_
              refine wr_y rfl (y_lt rfl rfl) ?_
              refine wr_yes rfl rfl ?_
              refine wr_y rfl (y_pickT rfl rfl) ?_
              refine wr_nil ?_
              exact ⟨(Sub.cons rfl (Sub.cons rfl (Sub.cons rfl (Sub.cons rfl (Sub.cons rfl (Sub.cons rfl (Sub.cons rfl (Sub.cons rfl (Sub.to rfl (mb (by first | omega | exact ⟨fun h => ⟨(by assumption), h⟩, fun h => h.2⟩ | exact .inl (by assumption) | exact ⟨.inr, fun h => h.resolve_left (by assumption)⟩ | exact ⟨fun h => h.resolve_left (by assumption), .inr⟩ | simp [*])) Sub.nil))))))))), fun _ h => h⟩
            ·
              refine wr_no rfl rfl rfl rfl ?_
              refine wr_no rfl rfl rfl rfl ?_
              refine wr_no rfl rfl rfl rfl ?_
              refine wr_yes rfl rfl ?_
              refine wr_y rfl (y_pickF rfl rfl) ?_
              refine wr_nil ?_
              exact ⟨(Sub.cons rfl (Sub.cons rfl (Sub.cons rfl (Sub.cons rfl (Sub.cons rfl (Sub.cons rfl (Sub.cons rfl (Sub.cons rfl (Sub.to rfl (mb_f (by first | omega | exact ⟨fun h => ⟨(by assumption), h⟩, fun h => h.2⟩ | exact .inl (by assumption) | exact ⟨.inr, fun h => h.resolve_left (by assumption)⟩ | exact ⟨fun h => h.resolve_left (by assumption), .inr⟩ | simp [*])) Sub.nil))))))))), fun _ h => h⟩
          refine wr_y rfl (y_pickF rfl rfl) ?_
          refine wr_nil ?_
          exact ⟨(Sub.cons rfl (Sub.cons rfl (Sub.cons rfl (Sub.cons rfl (Sub.cons rfl (Sub.cons rfl (Sub.cons rfl (Sub.to rfl (mb (by first | omega | exact ⟨fun h => ⟨(by assumption), h⟩, fun h => h.2⟩ | exact .inl (by assumption) | exact ⟨.inr, fun h => h.resolve_left (by assumption)⟩ | exact ⟨fun h => h.resolve_left (by assumption), .inr⟩ | simp [*])) Sub.nil)))))))), fun _ h => h⟩
      refine wr_nil ?_
      refine w_if rfl (fun hc6 => ?_) (fun hc6 => ?_)
      ·
        have hb2 : rdl als (rd tm i - 1) ≠ rdl als 0 ∨ last = rdl als 0 ∧ rd tm i < many := hc6
        refine w_seq ?_
        refine w_reg ?_
        refine wr_y rfl (y_assign rfl) ?_
        refine wr_y rfl (y_assign rfl) ?_
        refine wr_nil ?_
        refine w_retR (R1 := (⟨23, 1, none, 0, 0, [], false⟩ :: Rs)) (fun _ h => h.selR (F := [_, _]) (F' := [_]) [1] (by decide) rfl) ?_
        refine ⟨_, _, rfl, rfl, ?_⟩
        have hO : (backE ((cycL (fsL u)).map (wordC u)) [] 0 tm) = none := by rw [hbe, be_bad2 hi0 (by omega) hb2]; rfl
        rw [hO]
        exact ⟨none, 0, [], _, rfl, SlR.nilR _ _, rfl⟩
      ·
        have hb2 : ¬ (rdl als (rd tm i - 1) ≠ rdl als 0 ∨ last = rdl als 0 ∧ rd tm i < many) := hc6
        have hq : rdl als (rd tm i - 1) = rdl als 0 := Decidable.byContradiction fun e => hb2 (.inl e)
        have hblk := block_eq hsrt (by omega) (by omega) hq
        refine w_skip ?_
        refine w_seq ?_
        refine w_reg ?_
        refine wr_y rfl (y_move rfl) ?_
        refine wr_y rfl (y_move rfl) ?_
        refine wr_y rfl (y_move rfl) ?_
        refine wr_a rfl (a_callF en23 rfl (Ct.fresh (fun w hw => repeatB_ct ((fun _ h => hr_12 _ _ _ (h.right (R' := [_, _]))) w hw) hr0.2.1 (by omega) (Nat.le_trans (block_len hblk) hfl)))) ?_
        rintro _ _ ⟨_, rfl, A_17, c_18, rfl, rfl⟩
        refine wr_a rfl (a_lit [Value.slice A_17 ((rep (rdl als 0) (rd tm i)).length) c_18] Tryz.underlying22 zs23 rfl rfl rfl rfl) ?_
        rintro _ _ ⟨g_20, rfl, rfl⟩
        refine wr_a rfl (a_append 2 rfl rfl Tryz.underlying22 zb23 rfl rfl rfl rfl rfl (rdr 0 rfl) (by simp [Value.oneCell']) (by dsimp only; omega)) ?_
        rintro _ _ ⟨A_21, c_22, rfl, rfl⟩
        refine wr_rows (R1 := (⟨23, 1, (some ⟨g_20, 0, none⟩), 1, 1, [Value.slice A_17 ((rep (rdl als 0) (rd tm i)).length) c_18], false⟩ :: ⟨5, 1, A_17, (rep (rdl als 0) (rd tm i)).length, c_18, ints .u8 (rep (rdl als 0) (rd tm i)), true⟩ :: ⟨23, 1, A_21, (n1 + 1), c_22, vals ++ ([Value.slice A_17 ((rep (rdl als 0) (rd tm i)).length) c_18]), false⟩ :: ⟨23, 1, none, 0, 0, [], false⟩ :: Rs)) rfl ?_
        refine wr_as (v := .slice A_21 (n1 + 1) c_22) rfl ?_
        refine wr_y rfl (y_assign rfl) ?_
        refine wr_nil ?_
        refine w_regd mixed ?_
        refine wd_y 0 rfl (by kernel_rfl) rfl (y_move rfl) ?_
        refine wd_y 1 rfl (by kernel_rfl) rfl (y_move rfl) ?_
        refine wd_y 2 rfl (by kernel_rfl) rfl (y_move rfl) ?_
        refine wd_y 3 rfl (by kernel_rfl) rfl (y_move rfl) ?_
        refine wd_y 4 rfl (by kernel_rfl) rfl (y_sliceFrom Tryz.underlying22 sz23 rfl rfl (by omega) (by omega)) ?_
        refine wd_y 5 rfl (by kernel_rfl) rfl (y_assign rfl) ?_
        refine wd_y 6 rfl (by kernel_rfl) rfl (y_assign rfl) ?_
        refine wd_y 7 rfl (by kernel_rfl) rfl (y_assign rfl) ?_
        refine wd_nil (by kernel_rfl) ?_
        refine w_reg ?_
        refine wr_y rfl (y_addI rfl rfl (by omega)) ?_
        refine wr_y rfl (y_move rfl) ?_
        refine wr_nil ?_
        exact ⟨i + 1, A_21, n1 + 1, c_22, vals ++ ([Value.slice A_17 ((rep (rdl als 0) (rd tm i)).length) c_18]), (ls ++ [rep (rdl als 0) (rd tm i)]), cutA A6 (rd tm i).toNat c6 1, n6 - (rd tm i).toNat, c6 - (rd tm i).toNat, (avals.drop (rd tm i).toNat), (als.drop (rd tm i).toNat), A_9, c_10, (rdl als 0), rd tm i, (⟨5, 1, A_17, (rep (rdl als 0) (rd tm i)).length, c_18, ints .u8 (rep (rdl als 0) (rd tm i)), true⟩ :: Rs), ⟨(by omega), (by omega), (by rw [List.length_append, hn1]; rfl), (hsl.snoc rfl), (by rw [List.length_append, List.length_singleton]; omega), (by rw [List.length_drop, hn6]), (fun B w0 w h => (RdC.fromV (fun w h => hall B w0 w h) (by omega)) w h.tail), ((hasl.drop _).right [_]), (fun B w0 w h => hr_12 B w0 w h.tail), (fun a ha => hok a (List.mem_of_mem_drop ha)), (hr0.1), (hsrt.sublist (List.drop_sublist _ _)), (drop_flat hfl), (by rw [List.length_drop]; omega), (be_go hi0 (by omega) hb1 hb2 hbe)⟩, (by omega), (Sub.cons rfl (Sub.cons rfl (Sub.cons rfl (Sub.cons rfl (Sub.cons rfl (Sub.cons rfl (Sub.cons rfl Sub.nil))))))), fun _ h => h.selR (F := [_, _, _, _]) (F' := [_, _, _]) [2, 3, 1] (by decide) rfl⟩
  ·
    refine w_exit ?_
    refine w_seq ?_
    refine w_seq ?_
    refine w_reg ?_
    refine wr_y rfl (y_move rfl) ?_
    refine wr_y rfl (y_len Tryz.underlying22 rfl) ?_
    refine wr_y rfl (y_gt rfl rfl) ?_
    refine wr_nil ?_
    refine w_if rfl (fun hc7 => ?_) (fun hc7 => ?_)
    ·
      refine w_seq ?_
      refine w_reg ?_
      refine wr_y rfl (y_assign rfl) ?_
      refine wr_y rfl (y_assign rfl) ?_
      refine wr_nil ?_
      refine w_retR (R1 := (⟨23, 1, none, 0, 0, [], false⟩ :: Rs)) (fun _ h => h.selR (F := [_, _]) (F' := [_]) [1] (by decide) rfl) ?_
      refine ⟨_, _, rfl, rfl, ?_⟩
      have hO : (backE ((cycL (fsL u)).map (wordC u)) [] 0 tm) = none := (be_end (by omega) hbe).1 (by omega)
      rw [hO]
      exact ⟨none, 0, [], _, rfl, SlR.nilR _ _, rfl⟩
    ·
      refine w_skip ?_
      refine w_seq ?_
      refine w_reg ?_
      refine wr_y rfl (y_move rfl) ?_
      refine wr_y rfl (y_assign rfl) ?_
      refine wr_y rfl (y_assign rfl) ?_
      refine wr_nil ?_
      refine w_retR (R1 := (⟨23, 1, A1, n1, c1, vals, false⟩ :: Rs)) (fun _ h => h.selR (F := [_, _]) (F' := [_]) [0] (by decide) rfl) ?_
      refine ⟨_, _, rfl, rfl, ?_⟩
      have hO : (backE ((cycL (fsL u)).map (wordC u)) [] 0 tm) = some ls := (be_end (by omega) hbe).2 (by omega)
      rw [hO]
      subst hn1
      exact ⟨_, _, vals, Rs, rfl, hsl, rfl⟩

end Go.Proofs.YtdfcnalkdlifiaaGreat

/-! ## X3 -/
namespace Go.Proofs.YtdfcnalkdlifiaaGreat
open Go Go.Eng Go.Pure
set_option linter.unusedVariables false
theorem empty_step {ws : List (List Int)} {i : Int} (h0 : 0 ≤ i) (h1 : i < ws.length) : (emptyP (ws.take i.toNat) ∨ ((rdl ws i).length : Int) = 0) ↔ emptyP (ws.take (i + 1).toNat) := by
  rw [take_succ_rdl2 h0 h1]
  constructor
  · rintro (⟨w, hw, e⟩ | h)
    · exact ⟨w, List.mem_append.2 (.inl hw), e⟩
    · exact ⟨_, List.mem_append.2 (.inr (List.mem_singleton.2 rfl)), by omega⟩
  · rintro ⟨w, hw, e⟩
    rcases List.mem_append.1 hw with hw | hw
    · exact .inl ⟨w, hw, e⟩
    · obtain rfl := List.mem_singleton.1 hw
      exact .inr (by omega)
set_option maxRecDepth 100000 in
set_option maxHeartbeats 2000000 in
theorem turn24_ct {w : World} {A_ws : Option Addr} {n_ws c_ws : Nat} {vals_ws : List Value} {ws : List (List Int)} (h_ws : Rd w A_ws n_ws c_ws 1 vals_ws) (s_ws : SlW .u8 w vals_ws ws) (hN : (∀ w ∈ ws, w.length ≤ 8000) ∧ ws.length ≤ 100000) :
    Ct Tryz.prog 13 #[.slice A_ws n_ws c_ws] w.heap.size w [] (fun v R' => ∃ (A A2 : Option Addr) (c c2 : Nat) (L TS : List Int) (e : Int), v = .tuple #[.slice A L.length c, .slice A2 TS.length c2, .int .i64 e] ∧ ExtR ws L TS e ∧ R' = [⟨5, 1, A, L.length, c, ints .u8 L, false⟩, ⟨3, 1, A2, TS.length, c2, ints .i64 TS, false⟩]) := by
  obtain rfl : n_ws = ws.length := by have := h_ws.len; have := s_ws.1; omega
  refine fn3 Tryz.func13 rfl rfl rfl ?_
  have m_ws := h_ws.max
  refine w_seq ?_
  refine w_reg ?_
  refine wr_sub (R1 := (⟨5, 1, none, 0, 0, ints .u8 ([]), false⟩ :: [])) (Sub.refl _) (fun _ h => h.nil 5 1) ?_
  refine wr_y rfl (y_assign rfl) ?_
  refine wr_sub (R1 := (⟨3, 1, none, 0, 0, ints .i64 ([]), false⟩ :: ⟨5, 1, none, 0, 0, ints .u8 ([]), false⟩ :: [])) (Sub.refl _) (fun _ h => h.nil 3 1) ?_
  refine wr_y rfl (y_assign rfl) ?_
  refine wr_y rfl (y_assign rfl) ?_
  refine wr_nil ?_
  refine w_seq ?_
  refine w_reg ?_
  refine wr_y rfl (y_assign rfl) ?_
  refine wr_y rfl (y_assign rfl) ?_
  refine wr_nil ?_
  refine w_seq ?_
  refine w_seq ?_
  refine w_reg ?_
  refine wr_y rfl (y_assign rfl) ?_
  refine wr_nil ?_
  refine w_block ?_
  refine w_loop2 (fun (i : Int) (z : Int) => [(0, .slice A_ws ws.length c_ws), (5, .int .i64 z), (6, .bool (decide (emptyP (ws.take i.toNat)))), (7, .int .i64 i)]) (fun (i : Int) (z : Int) => (⟨3, 1, none, 0, 0, ints .i64 ([]), false⟩ :: ⟨5, 1, none, 0, 0, ints .u8 ([]), false⟩ :: [])) (fun (i : Int) (z : Int) => (0 ≤ i) ∧ (i ≤ ws.length) ∧ (z = ((ws.take i.toNat).flatten.length : Int)) ∧ (0 ≤ z ∧ z ≤ i * 8000)) (fun (i : Int) (z : Int) => (ws.length - i).toNat) ?_ ?_
  ·
    exact ⟨0, 0, ⟨(by omega), (by omega), (rfl), (by omega)⟩, (Sub.cons rfl (Sub.cons rfl (Sub.cons rfl (Sub.cons rfl Sub.nil)))), fun _ h => h⟩
  intro i z ⟨hi0, hi1, hz, hz2⟩
  have hwl : 0 ≤ i → i < ws.length → (rdl ws i).length ≤ 8000 := fun h h' => hN.1 _ (rdl_mem2 h h')
  refine w_seq ?_
  refine w_seq ?_
  refine w_reg ?_
  refine wr_y rfl (y_move rfl) ?_
  refine wr_y rfl (y_move rfl) ?_
  refine wr_y rfl (y_len Tryz.underlying22 rfl) ?_
  refine wr_y rfl (y_lt rfl rfl) ?_
  refine wr_nil ?_
  refine w_if rfl (fun hc1 => ?_) (fun hc1 => ?_)
  ·
    have hwl2 := hwl hi0 (by omega)
    refine w_skip ?_
    refine w_seq ?_
    refine w_block ?_
    refine w_seq ?_
    refine w_reg ?_
    refine wr_y rfl (y_move rfl) ?_
    refine wr_y rfl (y_move rfl) ?_
    refine wr_y rfl (y_move rfl) ?_
    refine wr_y rfl (y_index1 Tryz.underlying22 sz23 rfl rfl (h_ws.c _) (by omega) (by omega)) ?_
    refine s_ws.elim (i := i) (by omega) (by omega) (fun A_1 c_2 hv_3 hr_4 hb_5 mhr_4 => ?_)
    refine wr_y rfl (y_ld Tryz.underlying23 rfl rfl rfl (h_ws.c _) hv_3) ?_
    refine wr_y rfl (y_len Tryz.underlying23 rfl) ?_
    refine wr_y rfl (y_addI rfl rfl (by omega)) ?_
    refine wr_y rfl (y_assign rfl) ?_
    refine wr_nil ?_
    refine w_reg ?_
    refine wr_y rfl (y_move rfl) ?_
    refine wr_y rfl (y_move rfl) ?_
    refine wr_mid 7 [(0, .slice A_ws ws.length c_ws), (5, .int .i64 (z + (((rdl ws i).length : Nat) : Int))), (7, .int .i64 i), (31, .bool (decide ((emptyP (ws.take i.toNat)) ∨ ((((rdl ws i).length : Nat) : Int) = 0))))] (⟨3, 1, none, 0, 0, ints .i64 ([]), false⟩ :: ⟨5, 1, none, 0, 0, ints .u8 ([]), false⟩ :: []) ?_ ?_
    ·
      refine wr_case 24 rfl (fun hc2 => ?_) (fun hc2 => ?_)
      ·
        refine wr_no rfl rfl rfl rfl ?_
        refine wr_no rfl rfl rfl rfl ?_
        refine wr_no rfl rfl rfl rfl ?_
        refine wr_no rfl rfl rfl rfl ?_
        refine wr_no rfl rfl rfl rfl ?_
        refine wr_no rfl rfl rfl rfl ?_
        refine wr_y rfl (y_pickT rfl rfl) ?_
        refine wr_nil ?_
        exact ⟨(Sub.cons rfl (Sub.cons rfl (Sub.cons rfl (Sub.to rfl (mb_t (by first | omega | exact ⟨fun h => ⟨(by assumption), h⟩, fun h => h.2⟩ | exact .inl (by assumption) | exact ⟨.inr, fun h => h.resolve_left (by assumption)⟩ | exact ⟨fun h => h.resolve_left (by assumption), .inr⟩ | simp [*])) Sub.nil)))), fun _ h => h⟩
      ·
        refine wr_yes rfl rfl ?_
        refine wr_y rfl (y_move rfl) ?_
        refine wr_yes rfl rfl ?_
        refine wr_y rfl (y_move rfl) ?_
        refine wr_yes rfl rfl ?_
        refine wr_y rfl (y_index1 Tryz.underlying22 sz23 rfl rfl (h_ws.c _) (by omega) (by omega)) ?_
        refine wr_yes rfl rfl ?_
        refine s_ws.elim (i := i) (by omega) (by omega) (fun A_6 c_7 hv_8 hr_9 hb_10 mhr_9 => ?_)
        refine wr_y rfl (y_ld Tryz.underlying23 rfl rfl rfl (h_ws.c _) hv_8) ?_
        refine wr_yes rfl rfl ?_
        refine wr_y rfl (y_len Tryz.underlying23 rfl) ?_
        refine wr_yes rfl rfl ?_
        refine wr_y rfl (y_eq rfl rfl) ?_
        refine wr_y rfl (y_pickF rfl rfl) ?_
        refine wr_nil ?_
        exact ⟨(Sub.cons rfl (Sub.cons rfl (Sub.cons rfl (Sub.to rfl (mb (by first | omega | exact ⟨fun h => ⟨(by assumption), h⟩, fun h => h.2⟩ | exact .inl (by assumption) | exact ⟨.inr, fun h => h.resolve_left (by assumption)⟩ | exact ⟨fun h => h.resolve_left (by assumption), .inr⟩ | simp [*])) Sub.nil)))), fun _ h => h⟩
    refine wr_y rfl (Yl.is (y_assign rfl) (show Value.bool (decide (emptyP (ws.take i.toNat) ∨ ((rdl ws i).length : Int) = 0)) = Value.bool (decide (emptyP (ws.take (i + 1).toNat))) from congrArg Value.bool (decide_eq_decide.2 (empty_step hi0 (by omega))))) ?_
    refine wr_nil ?_
    refine w_reg ?_
    refine wr_y rfl (y_move rfl) ?_
    refine wr_y rfl (y_addI rfl rfl (by omega)) ?_
    refine wr_y rfl (y_assign rfl) ?_
    refine wr_nil ?_
    exact ⟨i + 1, z + (((rdl ws i).length : Nat) : Int), ⟨(by omega), (by omega), (by rw [flat_take_succ hi0 (by omega), List.length_append, hz]; omega), (by omega)⟩, (by omega), (Sub.cons rfl (Sub.cons rfl (Sub.cons rfl (Sub.cons rfl Sub.nil)))), fun _ h => h⟩
  ·
    obtain rfl : i = ws.length := by omega
    rw [Int.toNat_natCast, List.take_length] at hz
    have htk : ws.take ((ws.length : Nat) : Int).toNat = ws := by rw [Int.toNat_natCast, List.take_length]
    refine w_exit ?_
    refine w_seq ?_
    refine w_seq ?_
    refine w_reg ?_
    refine wr_y rfl (y_move rfl) ?_
    refine wr_y rfl (y_len Tryz.underlying22 rfl) ?_
    refine wr_y rfl (y_gt rfl rfl) ?_
    refine wr_y rfl (y_move rfl) ?_
    refine wr_mid 3 [(0, .slice A_ws ws.length c_ws), (6, .bool (decide (emptyP (ws.take (ws.length : Int).toNat)))), (38, .bool (decide ((1000 < ((ws.length : Nat) : Int)) ∨ (100000 < z))))] (⟨3, 1, none, 0, 0, ints .i64 ([]), false⟩ :: ⟨5, 1, none, 0, 0, ints .u8 ([]), false⟩ :: []) ?_ ?_
    ·
      refine wr_case 35 rfl (fun hc3 => ?_) (fun hc3 => ?_)
      ·
        refine wr_no rfl rfl rfl rfl ?_
        refine wr_no rfl rfl rfl rfl ?_
        refine wr_y rfl (y_pickT rfl rfl) ?_
        refine wr_nil ?_
        exact ⟨(Sub.cons rfl (Sub.cons rfl (Sub.to rfl (mb_t (by first | omega | exact ⟨fun h => ⟨(by assumption), h⟩, fun h => h.2⟩ | exact .inl (by assumption) | exact ⟨.inr, fun h => h.resolve_left (by assumption)⟩ | exact ⟨fun h => h.resolve_left (by assumption), .inr⟩ | simp [*])) Sub.nil))), fun _ h => h⟩
      ·
        refine wr_yes rfl rfl ?_
        refine wr_y rfl (y_move rfl) ?_
        refine wr_yes rfl rfl ?_
        refine wr_y rfl (y_gt rfl rfl) ?_
        refine wr_y rfl (y_pickF rfl rfl) ?_
        refine wr_nil ?_
        exact ⟨(Sub.cons rfl (Sub.cons rfl (Sub.to rfl (mb (by first | omega | exact ⟨fun h => ⟨(by assumption), h⟩, fun h => h.2⟩ | exact .inl (by assumption) | exact ⟨.inr, fun h => h.resolve_left (by assumption)⟩ | exact ⟨fun h => h.resolve_left (by assumption), .inr⟩ | simp [*])) Sub.nil))), fun _ h => h⟩
    refine wr_nil ?_
    refine w_if rfl (fun hc4 => ?_) (fun hc4 => ?_)
    ·
      refine w_seq ?_
      refine w_reg ?_
      refine wr_y rfl (y_assign rfl) ?_
      refine wr_y rfl (y_assign rfl) ?_
      refine wr_y rfl (y_assign rfl) ?_
      refine wr_nil ?_
      refine w_retR (R1 := [⟨5, 1, none, 0, 0, ints .u8 ([]), false⟩, ⟨3, 1, none, 0, 0, ints .i64 ([]), false⟩]) (fun _ h => (h.selR (F := [_, _]) (F' := [_, _]) [1, 0] (by decide) rfl).left (X := [_, _])) ?_
      refine ⟨_, _, _, rfl, rfl, rfl, ?_⟩
      exact ⟨_, _, _, _, [], [], 2, rfl, .inl ⟨rfl, by omega, rfl, rfl⟩, rfl⟩
    ·
      refine w_skip ?_
      refine w_seq ?_
      refine w_seq ?_
      refine w_reg ?_
      refine wr_y rfl (y_move rfl) ?_
      refine wr_nil ?_
      refine w_if rfl (fun hc5 => ?_) (fun hc5 => ?_)
      ·
        refine w_seq ?_
        refine w_reg ?_
        refine wr_y rfl (y_assign rfl) ?_
        refine wr_y rfl (y_assign rfl) ?_
        refine wr_y rfl (y_assign rfl) ?_
        refine wr_nil ?_
        refine w_retR (R1 := [⟨5, 1, none, 0, 0, ints .u8 ([]), false⟩, ⟨3, 1, none, 0, 0, ints .i64 ([]), false⟩]) (fun _ h => (h.selR (F := [_, _]) (F' := [_, _]) [1, 0] (by decide) rfl).left (X := [_, _])) ?_
        refine ⟨_, _, _, rfl, rfl, rfl, ?_⟩
        exact ⟨_, _, _, _, [], [], 1, rfl, .inr (.inl ⟨by omega, rfl, by rw [htk] at hc5; exact hc5, rfl, rfl⟩), rfl⟩
      ·
        refine w_skip ?_
        refine w_seq ?_
        refine w_reg ?_
        refine wr_y rfl (y_move rfl) ?_
        refine wr_a rfl (a_callF en28 rfl (Ct.fresh (fun w hw => roots9_ct ((h_ws.c _) w hw) (s_ws.c hw) hN))) ?_
        rintro _ _ ⟨_, rfl, A_11, c_12, A_13, c_14, vals_15, Rs_16, rfl, hsl_17, rfl⟩
        have hn_hsl_17 := hsl_17.1
        refine wr_sub (R1 := (⟨23, 1, A_11, vals_15.length, c_12, vals_15, false⟩ :: ⟨3, 1, A_13, ((ringS ws).map Prod.snd).length, c_14, ints .i64 ((ringS ws).map Prod.snd), false⟩ :: ⟨3, 1, none, 0, 0, ints .i64 ([]), false⟩ :: ⟨5, 1, none, 0, 0, ints .u8 ([]), false⟩ :: Rs_16)) (Sub.refl _) (fun _ h => Hp.toTail0 (X := [_, _]) (Y := [_, _]) h) ?_
        refine wr_y rfl (y_move rfl) ?_
        refine wr_y rfl (y_extract rfl rfl) ?_
        refine wr_y rfl (y_extract rfl rfl) ?_
        refine wr_y rfl (y_assign rfl) ?_
        refine wr_y rfl (y_assign rfl) ?_
        refine wr_nil ?_
        refine w_seq ?_
        refine w_reg ?_
        refine wr_y rfl (y_move rfl) ?_
        refine wr_a rfl (a_callF en29 rfl (Ct.fresh (fun w hw => last23_ct ((h_ws.c _) w hw) (s_ws.c hw) ⟨by omega, by omega⟩))) ?_
        rintro _ _ ⟨_, rfl, l2, A_20, c_21, rfl, hpt_l2, hst_l2, rfl⟩
        refine wr_y rfl (y_move rfl) ?_
        refine wr_y rfl (y_assign rfl) ?_
        refine wr_y rfl (y_assign rfl) ?_
        refine wr_y rfl (y_assign rfl) ?_
        refine wr_nil ?_
        refine w_retR (R1 := [⟨5, 1, A_20, l2.length, c_21, ints .u8 (l2.map (lastB ws)), false⟩, ⟨3, 1, A_13, ((ringS ws).map Prod.snd).length, c_14, ints .i64 ((ringS ws).map Prod.snd), false⟩]) (fun _ h => (h.selR (F := [_, _, _, _, _]) (F' := [_, _]) [0, 2] (by decide) rfl).left (X := [_, _])) ?_
        refine ⟨_, _, _, rfl, rfl, rfl, ?_⟩
        rw [show l2.length = (l2.map (lastB ws)).length from (List.length_map _).symm]
        exact ⟨_, _, _, _, l2.map (lastB ws), _, 0, rfl, .inr (.inr ⟨by omega, rfl, fun w hw => Nat.pos_of_ne_zero fun e => hc5 (by rw [htk]; exact ⟨w, hw, e⟩), ⟨l2, hpt_l2, hst_l2, rfl⟩, rfl⟩), rfl⟩

theorem rb_bad {als : List (List Int)} {tm : List Int} {i : Int} (h0 : 0 ≤ i) (h1 : i < tm.length) (hb : rd tm i < 1 ∨ (als.length : Int) < rd tm i) : refB als (tm.drop i.toNat) = none := by
  rw [rd_drop_cons h0 h1, refB, if_pos hb]
theorem rb_go {als ls : List (List Int)} {tm : List Int} {i : Int} {w : List Int} {o : Option (List (List Int) × List (List Int))} (h0 : 0 ≤ i) (h1 : i < tm.length) (hb : ¬ (rd tm i < 1 ∨ (als.length : Int) < rd tm i)) (hw : w = (als.take (rd tm i).toNat).flatten) (h : o = (refB als (tm.drop i.toNat)).map fun p => (ls ++ p.1, p.2)) :
    o = (refB (als.drop (rd tm i).toNat) (tm.drop (i + 1).toNat)).map fun p => ((ls ++ [w]) ++ p.1, p.2) := by
  rw [h, rd_drop_cons h0 h1, refB, if_neg hb, Option.map_map, hw]
  congr 1
  funext p
  simp
theorem rb_end {als ls : List (List Int)} {tm : List Int} {i : Int} {o : Option (List (List Int) × List (List Int))} (hi : (tm.length : Int) ≤ i) (h : o = (refB als (tm.drop i.toNat)).map fun p => (ls ++ p.1, p.2)) : o = some (ls, als) := by
  rw [List.drop_of_length_le (by omega), refB] at h
  rw [h]; simp
theorem word_k {u : List Int} {cls : List (List Int)} {k : Int} {acc : List Int} (h0 : 0 ≤ k) (h1 : k < cls.length) (h : acc = ((cls.take k.toNat).map (wordC u)).flatten) : acc ++ wordC u (rdl cls k) = ((cls.take (k + 1).toNat).map (wordC u)).flatten := by
  rw [cw_step (wordC u) h0 h1, List.flatten_append, h]; simp
theorem words_flat {u : List Int} (cs : List (List Int)) : (cs.map (wordC u)).flatten.length = cs.flatten.length := by
  induction cs with
  | nil => rfl
  | cons c cs ih => rw [List.map_cons, List.flatten_cons, List.flatten_cons, List.length_append, List.length_append, ih, wordC_len]
theorem words_byte {u : List Int} (h : ByteL u) (cs : List (List Int)) : ByteL (cs.map (wordC u)).flatten := fun x hx => by
  obtain ⟨w, hw, hxw⟩ := List.mem_flatten.1 hx
  obtain ⟨c, _, rfl⟩ := List.mem_map.1 hw
  obtain ⟨y, _, rfl⟩ := List.mem_map.1 hxw
  exact h.rd y
theorem take_flat {ws : List (List Int)} {k M : Nat} (h : ws.flatten.length ≤ M) : (ws.take k).flatten.length ≤ M := Nat.le_trans (flat_le k) h
set_option maxRecDepth 100000 in
set_option maxHeartbeats 6000000 in
theorem back24_ct {w : World} {A_u : Option Addr} {n_u c_u : Nat} {u : List Int} {A_tm : Option Addr} {n_tm c_tm : Nat} {tm : List Int} (h_u : Rd w A_u n_u c_u 1 (ints .u8 u)) (h_tm : Rd w A_tm n_tm c_tm 1 (ints .i64 tm)) (bh_u : ByteL u) (hN : u.length ≤ 8000 ∧ tm.length ≤ 1000) :
    Ct Tryz.prog 16 #[.slice A_u n_u c_u, .slice A_tm n_tm c_tm] w.heap.size w [] (fun v R' => ∃ (A : Option Addr) (c : Nat) (vals : List Value) (Rs : List Row), v = .tuple #[.slice A vals.length c, .int .i64 (oE (backE ((cycL (fsL u)).map (wordC u)) [] 0 tm))] ∧ SlR .u8 Rs vals ((backE ((cycL (fsL u)).map (wordC u)) [] 0 tm).getD []) ∧ R' = ⟨23, 1, A, vals.length, c, vals, false⟩ :: Rs) := by
  obtain rfl := h_u.lenI
  obtain rfl := h_tm.lenI
  refine fn2 Tryz.func16 rfl rfl rfl ?_
  have m_u := h_u.max
  have m_tm := h_tm.max
  have hfp := fsL_perm bh_u
  have hfl0 := fsL_len u
  have hcl0 := cycL_len hfp
  have hcf := cyc_count (p := fsL u)
  refine w_seq ?_
  refine w_reg ?_
  refine wr_sub (R1 := (⟨23, 1, none, 0, 0, [], false⟩ :: [])) (Sub.refl _) (fun _ h => h.nil 23 1) ?_
  refine wr_y rfl (y_assign rfl) ?_
  refine wr_y rfl (y_assign rfl) ?_
  refine wr_nil ?_
  refine w_seq ?_
  refine w_seq ?_
  refine w_reg ?_
  refine wr_y rfl (y_move rfl) ?_
  refine wr_y rfl (y_len Tryz.underlying23 rfl) ?_
  refine wr_y rfl (Yl.f (y_gt rfl rfl) (by omega)) ?_
  refine wr_y rfl (y_move rfl) ?_
  refine wr_yes rfl rfl ?_
  refine wr_y rfl (y_move rfl) ?_
  refine wr_yes rfl rfl ?_
  refine wr_y rfl (y_len Tryz.underlying24 rfl) ?_
  refine wr_yes rfl rfl ?_
  refine wr_y rfl (Yl.f (y_gt rfl rfl) (by omega)) ?_
  refine wr_y rfl (y_pickF rfl rfl) ?_
  refine wr_nil ?_
  refine w_false rfl ?_
  refine w_skip ?_
  refine w_seq ?_
  refine w_reg ?_
  refine wr_y rfl (y_move rfl) ?_
  refine wr_a rfl (a_callF en31 rfl (Ct.fresh (fun w hw => lfOf22_ct ((h_u.c _) w hw) bh_u (by omega)))) ?_
  rintro _ _ ⟨_, rfl, A_1, c_2, rfl, rfl⟩
  refine wr_a rfl (a_callF en30 rfl (Ct.fresh (fun w hw => cycles22_ct ((rdr 0 rfl) w hw) hfp (by omega)))) ?_
  rintro _ _ ⟨_, rfl, A_4, c_5, vals_6, Rs_7, rfl, hsl_8, rfl⟩
  have hn_hsl_8 := hsl_8.1
  refine wr_sub (R1 := (⟨24, 1, A_4, vals_6.length, c_5, vals_6, false⟩ :: ⟨3, 1, A_1, (fsL u).length, c_2, ints .i64 (fsL u), false⟩ :: ⟨23, 1, none, 0, 0, [], false⟩ :: Rs_7)) (Sub.refl _) (fun _ h => Hp.toTail0 (X := [_]) (Y := [_, _]) h) ?_
  refine wr_y rfl (y_move rfl) ?_
  refine wr_y rfl (y_extract rfl rfl) ?_
  refine wr_y rfl (y_extract rfl rfl) ?_
  refine wr_y rfl (y_assign rfl) ?_
  refine wr_y rfl (y_assign rfl) ?_
  refine wr_nil ?_
  refine w_seq ?_
  refine w_reg ?_
  refine wr_sub (R1 := (⟨23, 1, none, 0, 0, [], false⟩ :: ⟨24, 1, A_4, vals_6.length, c_5, vals_6, false⟩ :: ⟨3, 1, A_1, (fsL u).length, c_2, ints .i64 (fsL u), false⟩ :: ⟨23, 1, none, 0, 0, [], false⟩ :: Rs_7)) (Sub.refl _) (fun _ h => h.nil 23 1) ?_
  refine wr_y rfl (y_assign rfl) ?_
  refine wr_nil ?_
  refine w_seq ?_
  refine w_seq ?_
  refine w_reg ?_
  refine wr_y rfl (y_assign rfl) ?_
  refine wr_nil ?_
  refine w_block ?_
  refine w_loop12 (fun (i : Int) (A1 : Option Addr) (n1 : Nat) (c1 : Nat) (vals : List Value) (ls : List (List Int)) (A6 : Option Addr) (n6 : Nat) (c6 : Nat) (avals : List Value) (cls : List (List Int)) (Rs : List Row) => [(0, .slice A_u u.length c_u), (1, .slice A_tm tm.length c_tm), (6, .slice A6 n6 c6), (8, .slice A1 n1 c1), (9, .int .i64 i)]) (fun (i : Int) (A1 : Option Addr) (n1 : Nat) (c1 : Nat) (vals : List Value) (ls : List (List Int)) (A6 : Option Addr) (n6 : Nat) (c6 : Nat) (avals : List Value) (cls : List (List Int)) (Rs : List Row) => (⟨23, 1, A1, n1, c1, vals, false⟩ :: ⟨3, 1, A_1, (fsL u).length, c_2, ints .i64 (fsL u), false⟩ :: ⟨23, 1, none, 0, 0, [], false⟩ :: Rs)) (fun (i : Int) (A1 : Option Addr) (n1 : Nat) (c1 : Nat) (vals : List Value) (ls : List (List Int)) (A6 : Option Addr) (n6 : Nat) (c6 : Nat) (avals : List Value) (cls : List (List Int)) (Rs : List Row) => (0 ≤ i) ∧ (i ≤ tm.length) ∧ (n1 = vals.length) ∧ (SlR .u8 Rs vals ls) ∧ ((ls.length : Int) = i) ∧ (n6 = avals.length) ∧ (∀ (B : Nat) (w0 w : World), Hp B w0 w Rs → Rd w A6 n6 c6 1 avals) ∧ (SlR .i64 Rs avals cls) ∧ (∀ c ∈ cls, c ∈ cycL (fsL u)) ∧ (cls.flatten.length ≤ 8000) ∧ (cls.length ≤ 8000) ∧ (∀ w ∈ ls, ByteL w ∧ w.length ≤ 8000) ∧ (refB ((cycL (fsL u)).map (wordC u)) tm = (refB (cls.map (wordC u)) (tm.drop i.toNat)).map fun p => (ls ++ p.1, p.2))) (fun (i : Int) (A1 : Option Addr) (n1 : Nat) (c1 : Nat) (vals : List Value) (ls : List (List Int)) (A6 : Option Addr) (n6 : Nat) (c6 : Nat) (avals : List Value) (cls : List (List Int)) (Rs : List Row) => (tm.length - i).toNat) ?_ ?_
  ·
    exact ⟨0, none, 0, 0, [], [], A_4, vals_6.length, c_5, vals_6, (cycL (fsL u)), (⟨24, 1, A_4, vals_6.length, c_5, vals_6, false⟩ :: Rs_7), ⟨(by omega), (by omega), (rfl), (SlR.nilR _ _), (rfl), (rfl), (fun _ _ _ h => rdr 0 rfl _ h), (hsl_8.right [_]), (fun c hc => hc), (by omega), (by omega), (fun w hw => by cases hw), (by simp)⟩, (Sub.cons rfl (Sub.cons rfl (Sub.cons rfl (Sub.cons rfl (Sub.cons rfl Sub.nil))))), fun _ h => h.selR (F := [_, _, _, _]) (F' := [_, _, _, _]) [0, 2, 3, 1] (by decide) rfl⟩
  intro i A1 n1 c1 vals ls A6 n6 c6 avals cls Rs ⟨hi0, hi1, hn1, hsl, hln, hn6, hall, hasl, hin, hfl, ha8, hls, hrb⟩
  have hsn := hsl.1
  have han := hasl.1
  refine w_seq ?_
  refine w_seq ?_
  refine w_reg ?_
  refine wr_y rfl (y_move rfl) ?_
  refine wr_y rfl (y_move rfl) ?_
  refine wr_y rfl (y_len Tryz.underlying24 rfl) ?_
  refine wr_y rfl (y_lt rfl rfl) ?_
  refine wr_nil ?_
  refine w_if rfl (fun hc1 => ?_) (fun hc1 => ?_)
  ·
    refine w_skip ?_
    refine w_seq ?_
    refine w_block ?_
    refine w_seq ?_
    refine w_seq ?_
    refine w_reg ?_
    refine wr_y rfl (y_move rfl) ?_
    refine wr_y rfl (y_move rfl) ?_
    refine wr_y rfl (y_index1 Tryz.underlying24 sz3 rfl rfl (h_tm.c _) (by omega) (by omega)) ?_
    refine wr_y rfl (y_ldI Tryz.underlying3 rfl rfl (h_tm.c _) (by omega) (by omega)) ?_
    refine wr_y rfl (y_lt rfl rfl) ?_
    refine wr_y rfl (y_move rfl) ?_
    refine wr_mid 8 [(0, .slice A_u u.length c_u), (1, .slice A_tm tm.length c_tm), (6, .slice A6 n6 c6), (8, .slice A1 n1 c1), (9, .int .i64 i), (48, .bool (decide (((rd tm i) < 1) ∨ (((n6 : Nat) : Int) < (rd tm i)))))] (⟨23, 1, A1, n1, c1, vals, false⟩ :: ⟨3, 1, A_1, (fsL u).length, c_2, ints .i64 (fsL u), false⟩ :: ⟨23, 1, none, 0, 0, [], false⟩ :: Rs) ?_ ?_
    ·
      refine wr_case 40 rfl (fun hc2 => ?_) (fun hc2 => ?_)
      ·
        refine wr_no rfl rfl rfl rfl ?_
        refine wr_no rfl rfl rfl rfl ?_
        refine wr_no rfl rfl rfl rfl ?_
        refine wr_no rfl rfl rfl rfl ?_
        refine wr_no rfl rfl rfl rfl ?_
        refine wr_no rfl rfl rfl rfl ?_
        refine wr_no rfl rfl rfl rfl ?_
        refine wr_y rfl (y_pickT rfl rfl) ?_
        refine wr_nil ?_
        exact ⟨(Sub.cons rfl (Sub.cons rfl (Sub.cons rfl (Sub.cons rfl (Sub.cons rfl (Sub.to rfl (mb_t (by first | omega | exact ⟨fun h => ⟨(by assumption), h⟩, fun h => h.2⟩ | exact .inl (by assumption) | exact ⟨.inr, fun h => h.resolve_left (by assumption)⟩ | exact ⟨fun h => h.resolve_left (by assumption), .inr⟩ | simp [*])) Sub.nil)))))), fun _ h => h⟩
      ·
        refine wr_yes rfl rfl ?_
        refine wr_y rfl (y_move rfl) ?_
        refine wr_yes rfl rfl ?_
        refine wr_y rfl (y_move rfl) ?_
        refine wr_yes rfl rfl ?_
        refine wr_y rfl (y_index1 Tryz.underlying24 sz3 rfl rfl (h_tm.c _) (by omega) (by omega)) ?_
        refine wr_yes rfl rfl ?_
        refine wr_y rfl (y_ldI Tryz.underlying3 rfl rfl (h_tm.c _) (by omega) (by omega)) ?_
        refine wr_yes rfl rfl ?_
        refine wr_y rfl (y_move rfl) ?_
        refine wr_yes rfl rfl ?_
        refine wr_y rfl (y_len Tryz.underlying59 rfl) ?_
        refine wr_yes rfl rfl ?_
        refine wr_y rfl (y_gt rfl rfl) ?_
        refine wr_y rfl (y_pickF rfl rfl) ?_
        refine wr_nil ?_
        exact ⟨(Sub.cons rfl (Sub.cons rfl (Sub.cons rfl (Sub.cons rfl (Sub.cons rfl (Sub.to rfl (mb (by first | omega | exact ⟨fun h => ⟨(by assumption), h⟩, fun h => h.2⟩ | exact .inl (by assumption) | exact ⟨.inr, fun h => h.resolve_left (by assumption)⟩ | exact ⟨fun h => h.resolve_left (by assumption), .inr⟩ | simp [*])) Sub.nil)))))), fun _ h => h⟩
    refine wr_nil ?_
    refine w_if rfl (fun hc3 => ?_) (fun hc3 => ?_)
    ·
      refine w_seq ?_
      refine w_reg ?_
      refine wr_y rfl (y_assign rfl) ?_
      refine wr_y rfl (y_assign rfl) ?_
      refine wr_nil ?_
      refine w_retR (R1 := (⟨23, 1, none, 0, 0, [], false⟩ :: Rs)) (fun _ h => h.selR (F := [_, _, _]) (F' := [_]) [2] (by decide) rfl) ?_
      refine ⟨_, _, rfl, rfl, ?_⟩
      have hO : (backE ((cycL (fsL u)).map (wordC u)) [] 0 tm) = none := refB_none (by rw [hrb, rb_bad hi0 (by omega) (by rw [List.length_map]; omega)]; rfl)
      rw [hO]
      exact ⟨none, 0, [], _, rfl, SlR.nilR _ _, rfl⟩
    ·
      have hb1 : ¬ (rd tm i < 1 ∨ (cls.length : Int) < rd tm i) := by omega
      refine w_skip ?_
      refine w_seq ?_
      refine w_reg ?_
      refine wr_sub (R1 := (⟨5, 1, none, 0, 0, ints .u8 ([]), false⟩ :: ⟨23, 1, A1, n1, c1, vals, false⟩ :: ⟨3, 1, A_1, (fsL u).length, c_2, ints .i64 (fsL u), false⟩ :: ⟨23, 1, none, 0, 0, [], false⟩ :: Rs)) (Sub.refl _) (fun _ h => h.nil 5 1) ?_
      refine wr_y rfl (y_assign rfl) ?_
      refine wr_nil ?_
      refine w_seq ?_
      refine w_seq ?_
      refine w_reg ?_
      refine wr_y rfl (y_assign rfl) ?_
      refine wr_nil ?_
      refine w_block ?_
      refine w_loop5 (fun (k : Int) (A2 : Option Addr) (n2 : Nat) (c2 : Nat) (acc : List Int) => [(0, .slice A_u u.length c_u), (1, .slice A_tm tm.length c_tm), (6, .slice A6 n6 c6), (8, .slice A1 n1 c1), (9, .int .i64 i), (10, .slice A2 n2 c2), (11, .int .i64 k)]) (fun (k : Int) (A2 : Option Addr) (n2 : Nat) (c2 : Nat) (acc : List Int) => (⟨5, 1, A2, n2, c2, ints .u8 acc, false⟩ :: ⟨23, 1, A1, n1, c1, vals, false⟩ :: ⟨3, 1, A_1, (fsL u).length, c_2, ints .i64 (fsL u), false⟩ :: ⟨23, 1, none, 0, 0, [], false⟩ :: Rs)) (fun (k : Int) (A2 : Option Addr) (n2 : Nat) (c2 : Nat) (acc : List Int) => (0 ≤ k) ∧ (k ≤ rd tm i) ∧ (n2 = acc.length) ∧ (acc = ((cls.take k.toNat).map (wordC u)).flatten)) (fun (k : Int) (A2 : Option Addr) (n2 : Nat) (c2 : Nat) (acc : List Int) => (rd tm i - k).toNat) ?_ ?_
      ·
        exact ⟨0, none, 0, 0, [], ⟨(by omega), (by omega), (rfl), (rfl)⟩, (Sub.cons rfl (Sub.cons rfl (Sub.cons rfl (Sub.cons rfl (Sub.cons rfl (Sub.cons rfl (Sub.cons rfl Sub.nil))))))), fun _ h => h⟩
      intro k A2 n2 c2 acc ⟨hk0, hk1, hn2, hacc⟩
      have hacl : acc.length ≤ 8000 := by rw [hacc, words_flat]; exact take_flat hfl
      refine w_seq ?_
      refine w_seq ?_
      refine w_reg ?_
      refine wr_y rfl (y_move rfl) ?_
      refine wr_y rfl (y_move rfl) ?_
      refine wr_y rfl (y_move rfl) ?_
      refine wr_y rfl (y_index1 Tryz.underlying24 sz3 rfl rfl (h_tm.c _) (by omega) (by omega)) ?_
      refine wr_y rfl (y_ldI Tryz.underlying3 rfl rfl (h_tm.c _) (by omega) (by omega)) ?_
      refine wr_y rfl (y_lt rfl rfl) ?_
      refine wr_nil ?_
      refine w_if rfl (fun hc4 => ?_) (fun hc4 => ?_)
      ·
        have hcm := hin _ (rdl_mem2 (ws := cls) (i := k) hk0 (by omega))
        have hcl2 : (rdl cls k).length ≤ 8000 := by have := List.Sublist.length_le (List.sublist_flatten_of_mem (rdl_mem2 (ws := cls) (i := k) hk0 (by omega))); omega
        have hcw := wordC_len u (rdl cls k)
        refine w_skip ?_
        refine w_seq ?_
        refine w_block ?_
        refine w_reg ?_
        refine wr_y rfl (y_move rfl) ?_
        refine wr_y rfl (y_move rfl) ?_
        refine wr_y rfl (y_move rfl) ?_
        refine wr_y rfl (y_move rfl) ?_
        refine wr_y rfl (y_index1 Tryz.underlying59 sz24 rfl rfl (fun _ h => hall _ _ _ (h.right (R' := [_, _, _, _]))) (by omega) (by omega)) ?_
        obtain ⟨A_9, c_10, hv_11, hr_12⟩ := hasl.at (i := k) (by omega) (by omega)
        refine wr_y rfl (y_ld Tryz.underlying24 rfl rfl rfl (fun _ h => hall _ _ _ (h.right (R' := [_, _, _, _]))) hv_11) ?_
        refine wr_a rfl (a_callF en32 rfl (Ct.fresh (fun w hw => word22_ct ((h_u.c _) w hw) ((fun _ h => hr_12 _ _ _ (h.right (R' := [_, _, _, _]))) w hw) (fun x hx => by have := cycL_in hfp _ hcm x hx; omega) (by omega)))) ?_
        rintro _ _ ⟨_, rfl, A_13, c_14, rfl, rfl⟩
        refine wr_a rfl (a_appendI 1 rfl Tryz.underlying23 zb5 rfl rfl rfl (rdr 0 rfl) (by omega)) ?_
        rintro _ _ ⟨A_16, c_17, rfl, rfl⟩
        refine wr_rows (R1 := (⟨5, 1, A_13, (wordC u (rdl cls k)).length, c_14, ints .u8 (wordC u (rdl cls k)), false⟩ :: ⟨5, 1, A_16, (n2 + ((wordC u (rdl cls k)).length)), c_17, ints .u8 (acc ++ (wordC u (rdl cls k))), false⟩ :: ⟨23, 1, A1, n1, c1, vals, false⟩ :: ⟨3, 1, A_1, (fsL u).length, c_2, ints .i64 (fsL u), false⟩ :: ⟨23, 1, none, 0, 0, [], false⟩ :: Rs)) rfl ?_
        refine wr_as (v := .slice A_16 (n2 + ((wordC u (rdl cls k)).length)) c_17) rfl ?_
        refine wr_y rfl (y_assign rfl) ?_
        refine wr_nil ?_
        refine w_reg ?_
        refine wr_y rfl (y_move rfl) ?_
        refine wr_y rfl (y_addI rfl rfl (by omega)) ?_
        refine wr_y rfl (y_assign rfl) ?_
        refine wr_nil ?_
        exact ⟨k + 1, A_16, n2 + ((wordC u (rdl cls k)).length), c_17, acc ++ (wordC u (rdl cls k)), ⟨(by omega), (by omega), (by rw [List.length_append, hn2]), (word_k hk0 (by omega) hacc)⟩, (by omega), (Sub.cons rfl (Sub.cons rfl (Sub.cons rfl (Sub.cons rfl (Sub.cons rfl (Sub.cons rfl (Sub.cons rfl Sub.nil))))))), fun _ h => h.selR (F := [_, _, _, _, _]) (F' := [_, _, _, _]) [1, 2, 3, 4] (by decide) rfl⟩
      ·
        refine w_exit ?_
        refine w_seq ?_
        refine w_reg ?_
        refine wr_y rfl (y_move rfl) ?_
        refine wr_y rfl (y_move rfl) ?_
        refine wr_y rfl (y_move rfl) ?_
        refine wr_y rfl (y_index1 Tryz.underlying24 sz3 rfl rfl (h_tm.c _) (by omega) (by omega)) ?_
        refine wr_y rfl (y_ldI Tryz.underlying3 rfl rfl (h_tm.c _) (by omega) (by omega)) ?_
        refine wr_y rfl (y_sliceFrom Tryz.underlying59 sz24 rfl rfl (by omega) (by omega)) ?_
        refine wr_y rfl (y_assign rfl) ?_
        refine wr_nil ?_
        refine w_reg ?_
        refine wr_y rfl (y_move rfl) ?_
        refine wr_y rfl (y_move rfl) ?_
        refine wr_a rfl (a_lit [Value.slice A2 n2 c2] Tryz.underlying22 zs23 rfl rfl rfl rfl) ?_
        rintro _ _ ⟨g_19, rfl, rfl⟩
        refine wr_a rfl (a_append 2 rfl rfl Tryz.underlying22 zb23 rfl rfl rfl rfl rfl (rdr 0 rfl) (by simp [Value.oneCell']) (by dsimp only; omega)) ?_
        rintro _ _ ⟨A_20, c_21, rfl, rfl⟩
        refine wr_rows (R1 := (⟨23, 1, (some ⟨g_19, 0, none⟩), 1, 1, [Value.slice A2 n2 c2], false⟩ :: ⟨5, 1, A2, n2, c2, ints .u8 acc, false⟩ :: ⟨23, 1, A_20, (n1 + 1), c_21, vals ++ ([Value.slice A2 n2 c2]), false⟩ :: ⟨3, 1, A_1, (fsL u).length, c_2, ints .i64 (fsL u), false⟩ :: ⟨23, 1, none, 0, 0, [], false⟩ :: Rs)) rfl ?_
        refine wr_as (v := .slice A_20 (n1 + 1) c_21) rfl ?_
        refine wr_y rfl (y_assign rfl) ?_
        refine wr_nil ?_
        refine w_reg ?_
        refine wr_y rfl (y_move rfl) ?_
        refine wr_y rfl (y_addI rfl rfl (by omega)) ?_
        refine wr_y rfl (y_assign rfl) ?_
        refine wr_nil ?_
        exact ⟨i + 1, A_20, n1 + 1, c_21, vals ++ ([Value.slice A2 n2 c2]), (ls ++ [acc]), cutA A6 (rd tm i).toNat c6 1, n6 - (rd tm i).toNat, c6 - (rd tm i).toNat, (avals.drop (rd tm i).toNat), (cls.drop (rd tm i).toNat), (⟨5, 1, A2, n2, c2, ints .u8 acc, false⟩ :: Rs), ⟨(by omega), (by omega), (by rw [List.length_append, hn1]; rfl), (hsl.snoc hn2), (by rw [List.length_append, List.length_singleton]; omega), (by rw [List.length_drop, hn6]), (fun B w0 w h => (RdC.fromV (fun w h => hall B w0 w h) (by omega)) w h.tail), ((hasl.drop _).right [_]), (fun c hc => hin c (List.mem_of_mem_drop hc)), (drop_flat hfl), (by rw [List.length_drop]; omega), (fun w hw => (List.mem_append.1 hw).elim (hls w) fun h => by
                obtain rfl := List.mem_singleton.1 h
                exact ⟨by rw [hacc]; exact words_byte bh_u _, by rw [hacc, words_flat]; exact take_flat hfl⟩), (by rw [List.map_drop]; exact rb_go hi0 (by omega) (by rw [List.length_map]; exact hb1) (by rw [hacc, show k = rd tm i by omega, List.map_take]) hrb)⟩, (by omega), (Sub.cons rfl (Sub.cons rfl (Sub.cons rfl (Sub.cons rfl (Sub.cons rfl Sub.nil))))), fun _ h => h.selR (F := [_, _, _, _, _]) (F' := [_, _, _, _]) [2, 3, 4, 1] (by decide) rfl⟩
  ·
    refine w_exit ?_
    refine w_seq ?_
    refine w_reg ?_
    refine wr_y rfl (y_move rfl) ?_
    refine wr_a rfl (a_callF en13 rfl (Ct.fresh (fun w hw => turn24_ct ((rdr 0 rfl) w hw) (hsl.slw (fun w hw => ⟨(hls w hw).1, by have := (hls w hw).2; omega⟩) (Hp.right (R' := [_, _, _]) hw)) ⟨fun w hw => (hls w hw).2, by omega⟩))) ?_
    rintro _ _ ⟨_, rfl, A_22, A_24, c_23, c_25, Lx, TSx, ex, rfl, hxx, rfl⟩
    refine wr_y rfl (y_move rfl) ?_
    refine wr_y rfl (y_extract rfl rfl) ?_
    refine wr_y rfl (y_extract rfl rfl) ?_
    refine wr_y rfl (y_extract rfl rfl) ?_
    refine wr_y rfl (y_assign rfl) ?_
    refine wr_y rfl (y_assign rfl) ?_
    refine wr_y rfl (y_assign rfl) ?_
    refine wr_nil ?_
    refine w_seq ?_
    refine w_seq ?_
    refine w_reg ?_
    refine wr_y rfl (y_move rfl) ?_
    refine wr_y rfl (y_len Tryz.underlying59 rfl) ?_
    refine wr_y rfl (y_gt rfl rfl) ?_
    refine wr_y rfl (y_move rfl) ?_
    refine wr_mid 3 [(0, .slice A_u u.length c_u), (1, .slice A_tm tm.length c_tm), (8, .slice A1 n1 c1), (12, .slice A_22 Lx.length c_23), (13, .slice A_24 TSx.length c_25), (87, .bool (decide ((0 < ((n6 : Nat) : Int)) ∨ (ex ≠ 0))))] (⟨5, 1, A_22, Lx.length, c_23, ints .u8 Lx, false⟩ :: ⟨3, 1, A_24, TSx.length, c_25, ints .i64 TSx, false⟩ :: ⟨23, 1, A1, n1, c1, vals, false⟩ :: ⟨3, 1, A_1, (fsL u).length, c_2, ints .i64 (fsL u), false⟩ :: ⟨23, 1, none, 0, 0, [], false⟩ :: Rs) ?_ ?_
    ·
      refine wr_case 84 rfl (fun hc5 => ?_) (fun hc5 => ?_)
      ·
        refine wr_no rfl rfl rfl rfl ?_
        refine wr_no rfl rfl rfl rfl ?_
        refine wr_y rfl (y_pickT rfl rfl) ?_
        refine wr_nil ?_
        exact ⟨(Sub.cons rfl (Sub.cons rfl (Sub.cons rfl (Sub.cons rfl (Sub.cons rfl (Sub.to rfl (mb_t (by first | omega | exact ⟨fun h => ⟨(by assumption), h⟩, fun h => h.2⟩ | exact .inl (by assumption) | exact ⟨.inr, fun h => h.resolve_left (by assumption)⟩ | exact ⟨fun h => h.resolve_left (by assumption), .inr⟩ | simp [*])) Sub.nil)))))), fun _ h => h⟩
      ·
        refine wr_yes rfl rfl ?_
        refine wr_y rfl (y_move rfl) ?_
        refine wr_yes rfl rfl ?_
        refine wr_y rfl (y_ne rfl rfl) ?_
        refine wr_y rfl (y_pickF rfl rfl) ?_
        refine wr_nil ?_
        exact ⟨(Sub.cons rfl (Sub.cons rfl (Sub.cons rfl (Sub.cons rfl (Sub.cons rfl (Sub.to rfl (mb (by first | omega | exact ⟨fun h => ⟨(by assumption), h⟩, fun h => h.2⟩ | exact .inl (by assumption) | exact ⟨.inr, fun h => h.resolve_left (by assumption)⟩ | exact ⟨fun h => h.resolve_left (by assumption), .inr⟩ | simp [*])) Sub.nil)))))), fun _ h => h⟩
    refine wr_y rfl (y_move rfl) ?_
    refine wr_mid 6 [(1, .slice A_tm tm.length c_tm), (8, .slice A1 n1 c1), (13, .slice A_24 TSx.length c_25), (94, .bool (decide (((0 < ((n6 : Nat) : Int)) ∨ (ex ≠ 0)) ∨ (Lx ≠ u))))] (⟨5, 1, A_22, Lx.length, c_23, ints .u8 Lx, false⟩ :: ⟨3, 1, A_24, TSx.length, c_25, ints .i64 TSx, false⟩ :: ⟨23, 1, A1, n1, c1, vals, false⟩ :: ⟨3, 1, A_1, (fsL u).length, c_2, ints .i64 (fsL u), false⟩ :: ⟨23, 1, none, 0, 0, [], false⟩ :: Rs) ?_ ?_
    ·
      refine wr_case 88 rfl (fun hc6 => ?_) (fun hc6 => ?_)
      ·
        refine wr_no rfl rfl rfl rfl ?_
        refine wr_no rfl rfl rfl rfl ?_
        refine wr_no rfl rfl rfl rfl ?_
        refine wr_no rfl rfl rfl rfl ?_
        refine wr_no rfl rfl rfl rfl ?_
        refine wr_y rfl (y_pickT rfl rfl) ?_
        refine wr_nil ?_
        exact ⟨(Sub.cons rfl (Sub.cons rfl (Sub.cons rfl (Sub.to rfl (mb_t (by first | omega | exact ⟨fun h => ⟨(by assumption), h⟩, fun h => h.2⟩ | exact .inl (by assumption) | exact ⟨.inr, fun h => h.resolve_left (by assumption)⟩ | exact ⟨fun h => h.resolve_left (by assumption), .inr⟩ | simp [*])) Sub.nil)))), fun _ h => h⟩
      ·
        refine wr_yes rfl rfl ?_
        refine wr_y rfl (y_move rfl) ?_
        refine wr_yes rfl rfl ?_
        refine wr_y rfl (y_toStr Tryz.underlying23 Tryz.underlying5 Tryz.underlying9 rfl (rdr 0 rfl)) ?_
        refine wr_yes rfl rfl ?_
        refine wr_y rfl (y_move rfl) ?_
        refine wr_yes rfl rfl ?_
        refine wr_y rfl (y_toStr Tryz.underlying23 Tryz.underlying5 Tryz.underlying9 rfl (h_u.c _)) ?_
        refine wr_yes rfl rfl ?_
        refine wr_y rfl (y_neL rfl rfl (hxx.bytes fun w hw => (hls w hw).1) bh_u) ?_
        refine wr_y rfl (y_pickF rfl rfl) ?_
        refine wr_nil ?_
        exact ⟨(Sub.cons rfl (Sub.cons rfl (Sub.cons rfl (Sub.to rfl (mb (by first | omega | exact ⟨fun h => ⟨(by assumption), h⟩, fun h => h.2⟩ | exact .inl (by assumption) | exact ⟨.inr, fun h => h.resolve_left (by assumption)⟩ | exact ⟨fun h => h.resolve_left (by assumption), .inr⟩ | simp [*])) Sub.nil)))), fun _ h => h⟩
    refine wr_y rfl (y_move rfl) ?_
    refine wr_mid 5 [(8, .slice A1 n1 c1), (100, .bool (decide ((((0 < ((n6 : Nat) : Int)) ∨ (ex ≠ 0)) ∨ (Lx ≠ u)) ∨ (¬ (TSx = tm)))))] (⟨5, 1, A_22, Lx.length, c_23, ints .u8 Lx, false⟩ :: ⟨3, 1, A_24, TSx.length, c_25, ints .i64 TSx, false⟩ :: ⟨23, 1, A1, n1, c1, vals, false⟩ :: ⟨3, 1, A_1, (fsL u).length, c_2, ints .i64 (fsL u), false⟩ :: ⟨23, 1, none, 0, 0, [], false⟩ :: Rs) ?_ ?_
    ·
      refine wr_case 95 rfl (fun hc7 => ?_) (fun hc7 => ?_)
      ·
        refine wr_no rfl rfl rfl rfl ?_
        refine wr_no rfl rfl rfl rfl ?_
        refine wr_no rfl rfl rfl rfl ?_
        refine wr_no rfl rfl rfl rfl ?_
        refine wr_y rfl (y_pickT rfl rfl) ?_
        refine wr_nil ?_
        exact ⟨(Sub.cons rfl (Sub.to rfl (mb_t (by first | omega | exact ⟨fun h => ⟨(by assumption), h⟩, fun h => h.2⟩ | exact .inl (by assumption) | exact ⟨.inr, fun h => h.resolve_left (by assumption)⟩ | exact ⟨fun h => h.resolve_left (by assumption), .inr⟩ | simp [*])) Sub.nil)), fun _ h => h⟩
      ·
        refine wr_yes rfl rfl ?_
        refine wr_y rfl (y_move rfl) ?_
        refine wr_yes rfl rfl ?_
        refine wr_y rfl (y_move rfl) ?_
        refine wr_yes rfl rfl ?_
        refine wr_a rfl (a_callF en14 rfl (Ct.quiet (fun w hw => ints4_ct ((rdr 1 rfl) w hw) ((h_tm.c _) w hw) (by have := hxx.tlen; omega)))) ?_
        rintro _ _ ⟨rfl, rfl⟩
        refine wr_yes rfl rfl ?_
        refine wr_y rfl (y_notD rfl) ?_
        refine wr_y rfl (y_pickF rfl rfl) ?_
        refine wr_nil ?_
        exact ⟨(Sub.cons rfl (Sub.to rfl (mb (by first | omega | exact ⟨fun h => ⟨(by assumption), h⟩, fun h => h.2⟩ | exact .inl (by assumption) | exact ⟨.inr, fun h => h.resolve_left (by assumption)⟩ | exact ⟨fun h => h.resolve_left (by assumption), .inr⟩ | simp [*])) Sub.nil)), fun _ h => h⟩
    refine wr_nil ?_
    refine w_if rfl (fun hc8 => ?_) (fun hc8 => ?_)
    ·
      refine w_seq ?_
      refine w_reg ?_
      refine wr_y rfl (y_assign rfl) ?_
      refine wr_y rfl (y_assign rfl) ?_
      refine wr_nil ?_
      refine w_retR (R1 := (⟨23, 1, none, 0, 0, [], false⟩ :: Rs)) (fun _ h => h.selR (F := [_, _, _, _, _]) (F' := [_]) [4] (by decide) rfl) ?_
      refine ⟨_, _, rfl, rfl, ?_⟩
      have hO : (backE ((cycL (fsL u)).map (wordC u)) [] 0 tm) = none := (ref_back (l := u) (m := Lx) (t := TSx) (e := ex) bh_u (by omega) (by omega) (rb_end (by omega) hrb) hxx (fun w hw => (hls w hw).1)).trans (if_neg (by rintro ⟨q1, q2, q3, q4⟩; rw [List.length_map] at q1; rcases hc8 with ((h | h) | h) | h <;> first | omega | exact h q3 | exact h q4))
      rw [hO]
      exact ⟨none, 0, [], _, rfl, SlR.nilR _ _, rfl⟩
    ·
      refine w_skip ?_
      refine w_seq ?_
      refine w_reg ?_
      refine wr_y rfl (y_move rfl) ?_
      refine wr_y rfl (y_assign rfl) ?_
      refine wr_y rfl (y_assign rfl) ?_
      refine wr_nil ?_
      refine w_retR (R1 := (⟨23, 1, A1, n1, c1, vals, false⟩ :: Rs)) (fun _ h => h.selR (F := [_, _, _, _, _]) (F' := [_]) [2] (by decide) rfl) ?_
      refine ⟨_, _, rfl, rfl, ?_⟩
      have hO : (backE ((cycL (fsL u)).map (wordC u)) [] 0 tm) = some ls := (ref_back (l := u) (m := Lx) (t := TSx) (e := ex) bh_u (by omega) (by omega) (rb_end (by omega) hrb) hxx (fun w hw => (hls w hw).1)).trans (if_pos ⟨by rw [List.length_map]; omega, Decidable.not_not.1 fun h => hc8 (.inl (.inl (.inr h))), Decidable.not_not.1 fun h => hc8 (.inl (.inr h)), Decidable.not_not.1 fun h => hc8 (.inr h)⟩)
      rw [hO]
      subst hn1
      exact ⟨_, _, vals, Rs, rfl, hsl, rfl⟩

theorem ext_round {ws : List (List Int)} {L TS : List Int} {e : Int} (hx : ExtR ws L TS e) (he : e = 0) (hb : ∀ w ∈ ws, ByteL w) : backE ((cycL (fsL L)).map (wordC L)) [] 0 TS = some (canon ws) := by
  rcases hx with ⟨h, _⟩ | ⟨_, h, _⟩ | ⟨_, _, hne, ⟨T, hp, ho, rfl⟩, rfl⟩
  · omega
  · omega
  · have hA : (cycL (fsL (T.map (lastB ws)))).map (wordC (T.map (lastB ws))) = expR (ringS ws) := (turned_ext hb hp ho).1
    have h1 : ∀ r ∈ ringS ws, 1 ≤ r.2 ∧ 0 < r.1.length := fun r hr' => by
      obtain ⟨w, _, hw, rfl⟩ := mem_ringS hr'
      have hc : 0 < (lw w).length := by rw [lw_len]; exact hw
      have a1 := times_pos hc
      have a2 := root_len hc
      have a3 := rl_range hc
      exact ⟨by show 1 ≤ timesW (lw w); omega, by show 0 < (rootW (lw w)).length; omega⟩
    rw [hA]
    exact exp_back (ringS_sorted ws) (fun r h => (h1 r h).1) (fun r h e => by have := (h1 r h).2; rw [← e] at this; simp at this)
theorem _root_.Go.Pure.ExtR.len {ws : List (List Int)} {L TS : List Int} {e : Int} (h : ExtR ws L TS e) : L.length ≤ ws.flatten.length := by
  rcases h with ⟨_, _, rfl, _⟩ | ⟨_, _, _, rfl, _⟩ | ⟨_, _, _, ⟨T, hp, _, rfl⟩, _⟩
  · exact Nat.zero_le _
  · exact Nat.zero_le _
  · rw [List.length_map, all_len hp]; exact Nat.le_refl _
theorem back_ok {L TS : List Int} (hb : ByteL L) (hN : L.length ≤ 8000) {o : Option (List (List Int))} (ho : backE ((cycL (fsL L)).map (wordC L)) [] 0 TS = o) : OkB (o.getD []) ∧ (o.getD []).length ≤ TS.length := by
  cases o with
  | none => exact ⟨okB_nil, Nat.zero_le _⟩
  | some ws =>
    obtain ⟨rs, e1, e2, e3, e4, e5, _⟩ := back_exp (wordC_up hb) (fun a _ => by cases a <;> simp [cmpL]) ho
    have hfl : ws.flatten.length ≤ 8000 := by
      rw [e3, unring_flat, ← e1]
      exact Nat.le_trans (Nat.le_of_eq (cycW_flat hb)) hN
    refine ⟨fun l hl => ⟨fun x hx => ?_, ?_⟩, by show ws.length ≤ _; rw [e3, e2, List.length_map, List.length_map]; exact Nat.le_refl _⟩
    · have hx2 : x ∈ ws.flatten := List.mem_flatten.2 ⟨l, hl, hx⟩
      rw [e3, unring_flat, ← e1] at hx2
      obtain ⟨w, hw, hxw⟩ := List.mem_flatten.1 hx2
      obtain ⟨c, _, rfl⟩ := List.mem_map.1 hw
      obtain ⟨y, _, rfl⟩ := List.mem_map.1 hxw
      exact hb.rd y
    · have := List.Sublist.length_le (List.sublist_flatten_of_mem (show l ∈ ws from hl))
      omega
set_option maxRecDepth 100000 in
set_option maxHeartbeats 2000000 in
theorem extTurns_ct {w : World} {A_ws : Option Addr} {n_ws c_ws : Nat} {vals_ws : List Value} {ws : List (List Int)} (h_ws : Rd w A_ws n_ws c_ws 1 vals_ws) (s_ws : SlW .u8 w vals_ws ws) :
    Ct Tryz.prog 4 #[.slice A_ws n_ws c_ws] w.heap.size w [] (fun v R' => v = .bool true) := by
  obtain rfl : n_ws = ws.length := by have := h_ws.len; have := s_ws.1; omega
  refine fn1 Tryz.func4 rfl rfl rfl ?_
  have m_ws := h_ws.max
  refine w_seq ?_
  refine w_reg ?_
  refine wr_y rfl (y_assign rfl) ?_
  refine wr_nil ?_
  refine w_seq ?_
  refine w_seq ?_
  refine w_reg ?_
  refine wr_y rfl (y_move rfl) ?_
  refine wr_a rfl (a_callF en12 rfl (Ct.quiet (fun w hw => long24_ct ((h_ws.c _) w hw) (s_ws.c hw)))) ?_
  rintro _ _ ⟨rfl, rfl⟩
  refine wr_nil ?_
  refine w_if rfl (fun hc1 => ?_) (fun hc1 => ?_)
  ·
    refine w_seq ?_
    refine w_reg ?_
    refine wr_y rfl (y_assign rfl) ?_
    refine wr_nil ?_
    refine w_retR (R1 := []) (fun _ h => (h.selR (F := []) (F' := []) [] (by decide) rfl).left (X := [])) ?_
    refine ⟨_, rfl, ?_⟩
    rfl
  ·
    have hlg := long_no (M := 60) hc1
    have hNN : (∀ w ∈ ws, w.length ≤ 8000) ∧ ws.length ≤ 100000 := ⟨fun w hw => Nat.le_trans (hlg.2.2 w hw) (by decide), by omega⟩
    have hob := s_ws.okB
    have hfew := canon_few ws
    refine w_skip ?_
    refine w_seq ?_
    refine w_reg ?_
    refine wr_y rfl (y_move rfl) ?_
    refine wr_a rfl (a_callF en7 rfl (Ct.fresh (fun w hw => extTurn_ct ((h_ws.c _) w hw) (s_ws.c hw) hNN))) ?_
    rintro _ _ ⟨_, rfl, A_1, A_3, c_2, c_4, L1, TS1, e1, rfl, hx1, rfl⟩
    refine wr_y rfl (y_move rfl) ?_
    refine wr_y rfl (y_extract rfl rfl) ?_
    refine wr_y rfl (y_extract rfl rfl) ?_
    refine wr_y rfl (y_extract rfl rfl) ?_
    refine wr_y rfl (y_assign rfl) ?_
    refine wr_y rfl (y_assign rfl) ?_
    refine wr_y rfl (y_assign rfl) ?_
    refine wr_nil ?_
    refine w_seq ?_
    refine w_reg ?_
    refine wr_y rfl (y_move rfl) ?_
    refine wr_a rfl (a_callF en13 rfl (Ct.fresh (fun w hw => turn24_ct ((h_ws.c _) w hw) (s_ws.c hw) hNN))) ?_
    rintro _ _ ⟨_, rfl, A_7, A_9, c_8, c_10, L2, TS2, e2, rfl, hx2, rfl⟩
    refine wr_y rfl (y_move rfl) ?_
    refine wr_y rfl (y_extract rfl rfl) ?_
    refine wr_y rfl (y_extract rfl rfl) ?_
    refine wr_y rfl (y_extract rfl rfl) ?_
    refine wr_y rfl (y_assign rfl) ?_
    refine wr_y rfl (y_assign rfl) ?_
    refine wr_y rfl (y_assign rfl) ?_
    refine wr_nil ?_
    refine w_seq ?_
    refine w_seq ?_
    refine w_reg ?_
    refine wr_y rfl (y_move rfl) ?_
    refine wr_y rfl (y_move rfl) ?_
    refine wr_y rfl (Yl.f (y_ne rfl rfl) (by have := (hx1.one hx2 fun w hw => (hob w hw).1).1; omega)) ?_
    refine wr_y rfl (y_move rfl) ?_
    refine wr_yes rfl rfl ?_
    refine wr_y rfl (y_move rfl) ?_
    refine wr_yes rfl rfl ?_
    refine wr_y rfl (y_toStr Tryz.underlying23 Tryz.underlying5 Tryz.underlying9 rfl (rdr 2 rfl)) ?_
    refine wr_yes rfl rfl ?_
    refine wr_y rfl (y_move rfl) ?_
    refine wr_yes rfl rfl ?_
    refine wr_y rfl (y_toStr Tryz.underlying23 Tryz.underlying5 Tryz.underlying9 rfl (rdr 0 rfl)) ?_
    refine wr_yes rfl rfl ?_
    refine wr_y rfl (Yl.f (y_neL rfl rfl (hx1.bytes fun w hw => (hob w hw).1) (by rw [(hx1.one hx2 fun w hw => (hob w hw).1).2.1]; exact (hx1.bytes fun w hw => (hob w hw).1))) (by rw [(hx1.one hx2 fun w hw => (hob w hw).1).2.1]; exact fun h => h rfl)) ?_
    refine wr_y rfl (y_pickF rfl rfl) ?_
    refine wr_y rfl (y_move rfl) ?_
    refine wr_yes rfl rfl ?_
    refine wr_y rfl (y_move rfl) ?_
    refine wr_yes rfl rfl ?_
    refine wr_y rfl (y_move rfl) ?_
    refine wr_yes rfl rfl ?_
    refine wr_a rfl (a_callF en14 rfl (Ct.quiet (fun w hw => ints4_ct ((rdr 3 rfl) w hw) ((rdr 1 rfl) w hw) (Nat.le_trans hx1.tlen (by omega))))) ?_
    rintro _ _ ⟨rfl, rfl⟩
    refine wr_setT 38 rfl ((hx1.one hx2 fun w hw => (hob w hw).1).2.2.symm) ?_
    refine wr_yes rfl rfl ?_
    refine wr_y rfl (y_not rfl) ?_
    refine wr_y rfl (y_pickF rfl rfl) ?_
    refine wr_nil ?_
    refine w_false rfl ?_
    refine w_skip ?_
    refine w_seq ?_
    refine w_seq ?_
    refine w_reg ?_
    refine wr_y rfl (y_move rfl) ?_
    refine wr_y rfl (y_ne rfl rfl) ?_
    refine wr_nil ?_
    refine w_if rfl (fun hc2 => ?_) (fun hc2 => ?_)
    ·
      refine w_seq ?_
      refine w_reg ?_
      refine wr_a rfl (a_callF en15 rfl (Ct.quiet (fun w hw => known24_ct))) ?_
      rintro _ _ ⟨rfl, rfl⟩
      refine wr_y rfl (y_assign rfl) ?_
      refine wr_nil ?_
      refine w_retR (R1 := []) (fun _ h => (h.selR (F := [_, _, _, _]) (F' := []) [] (by decide) rfl).left (X := [])) ?_
      refine ⟨_, rfl, ?_⟩
      rfl
    ·
      have he1 : e1 = 0 := by have := (hx1.one hx2 fun w hw => (hob w hw).1).1; omega
      have hrd := ext_round hx1 he1 fun w hw => (hob w hw).1
      refine w_skip ?_
      refine w_seq ?_
      refine w_reg ?_
      refine wr_y rfl (y_move rfl) ?_
      refine wr_y rfl (y_move rfl) ?_
      refine wr_a rfl (a_callF en8 rfl (Ct.fresh (fun w hw => extBack_ct ((rdr 2 rfl) w hw) ((rdr 3 rfl) w hw) (hx1.bytes fun w hw => (hob w hw).1) ⟨Nat.le_trans hx1.len (by omega), Nat.le_trans hx1.tlen (by omega)⟩))) ?_
      rintro _ _ ⟨_, rfl, A_13, c_14, vals_15, Rs_16, rfl, hsl_17, rfl⟩
      have hn_hsl_17 := hsl_17.1
      refine wr_sub (R1 := (⟨23, 1, A_13, vals_15.length, c_14, vals_15, false⟩ :: ⟨5, 1, A_7, L2.length, c_8, ints .u8 L2, false⟩ :: ⟨3, 1, A_9, TS2.length, c_10, ints .i64 TS2, false⟩ :: ⟨5, 1, A_1, L1.length, c_2, ints .u8 L1, false⟩ :: ⟨3, 1, A_3, TS1.length, c_4, ints .i64 TS1, false⟩ :: Rs_16)) (Sub.refl _) (fun _ h => Hp.toTail0 (X := [_]) (Y := [_, _, _, _]) h) ?_
      refine wr_y rfl (y_move rfl) ?_
      refine wr_y rfl (y_extract rfl rfl) ?_
      refine wr_y rfl (y_extract rfl rfl) ?_
      refine wr_y rfl (y_assign rfl) ?_
      refine wr_y rfl (y_assign rfl) ?_
      refine wr_nil ?_
      refine w_seq ?_
      refine w_reg ?_
      refine wr_y rfl (y_move rfl) ?_
      refine wr_y rfl (Yl.t (y_eq rfl rfl) (by rw [hrd]; rfl)) ?_
      refine wr_y rfl (y_move rfl) ?_
      refine wr_yes rfl rfl ?_
      refine wr_y rfl (y_move rfl) ?_
      refine wr_yes rfl rfl ?_
      refine wr_y rfl (y_move rfl) ?_
      refine wr_yes rfl rfl ?_
      refine wr_a rfl (a_callF en10 rfl (Ct.fresh (fun w hw => canon9_ct ((h_ws.c _) w hw) (s_ws.c hw) hNN))) ?_
      rintro _ _ ⟨_, rfl, A_19, c_20, vals_21, Rs_22, rfl, hsl_23, rfl⟩
      have hn_hsl_23 := hsl_23.1
      have hw_25 := hsl_23.left Rs_16
      have hw_26 := hsl_17.right Rs_22
      refine wr_sub (R1 := (⟨23, 1, A_19, vals_21.length, c_20, vals_21, false⟩ :: ⟨23, 1, A_13, vals_15.length, c_14, vals_15, false⟩ :: ⟨5, 1, A_7, L2.length, c_8, ints .u8 L2, false⟩ :: ⟨3, 1, A_9, TS2.length, c_10, ints .i64 TS2, false⟩ :: ⟨5, 1, A_1, L1.length, c_2, ints .u8 L1, false⟩ :: ⟨3, 1, A_3, TS1.length, c_4, ints .i64 TS1, false⟩ :: (Rs_22 ++ Rs_16))) (Sub.refl _) (fun _ h => Hp.toTail (X := [_]) (Y := [_, _, _, _, _]) h) ?_
      refine wr_yes rfl rfl ?_
      refine wr_a rfl (a_callF en9 rfl (Ct.quiet (fun w hw => rows9_ct ((rdr 1 rfl) w hw) (hw_26.slw (back_ok (hx1.bytes fun w hw => (hob w hw).1) (Nat.le_trans hx1.len (by omega)) rfl).1 (Hp.right (R' := [_, _, _, _, _, _]) hw)) ((rdr 0 rfl) w hw) (hw_25.slw (canon_ok s_ws.okB) (Hp.right (R' := [_, _, _, _, _, _]) hw)) (by rw [hrd]; show (canon ws).length ≤ _; omega)))) ?_
      rintro _ _ ⟨rfl, rfl⟩
      refine wr_setT 56 rfl (by rw [hrd]; rfl) ?_
      refine wr_y rfl (y_pickT rfl rfl) ?_
      refine wr_y rfl (y_move rfl) ?_
      refine wr_yes rfl rfl ?_
      refine wr_a rfl (a_callF en15 rfl (Ct.quiet (fun w hw => known24_ct))) ?_
      rintro _ _ ⟨rfl, rfl⟩
      refine wr_y rfl (y_pickT rfl rfl) ?_
      refine wr_y rfl (y_assign rfl) ?_
      refine wr_nil ?_
      refine w_retR (R1 := []) (fun _ h => (h.selR (F := [_, _, _, _, _, _]) (F' := []) [] (by decide) rfl).left (X := [])) ?_
      refine ⟨_, rfl, ?_⟩
      rfl

set_option maxRecDepth 100000 in
set_option maxHeartbeats 2000000 in
theorem extBacks_ct {w : World} {A_u : Option Addr} {n_u c_u : Nat} {u : List Int} {A_tm : Option Addr} {n_tm c_tm : Nat} {tm : List Int} (h_u : Rd w A_u n_u c_u 1 (ints .u8 u)) (h_tm : Rd w A_tm n_tm c_tm 1 (ints .i64 tm)) (bh_u : ByteL u) :
    Ct Tryz.prog 5 #[.slice A_u n_u c_u, .slice A_tm n_tm c_tm] w.heap.size w [] (fun v R' => v = .bool true) := by
  obtain rfl := h_u.lenI
  obtain rfl := h_tm.lenI
  refine fn1 Tryz.func5 rfl rfl rfl ?_
  have m_u := h_u.max
  have m_tm := h_tm.max
  refine w_seq ?_
  refine w_reg ?_
  refine wr_y rfl (y_assign rfl) ?_
  refine wr_nil ?_
  refine w_seq ?_
  refine w_seq ?_
  refine w_reg ?_
  refine wr_y rfl (y_move rfl) ?_
  refine wr_y rfl (y_len Tryz.underlying23 rfl) ?_
  refine wr_y rfl (y_gt rfl rfl) ?_
  refine wr_y rfl (y_move rfl) ?_
  refine wr_mid 4 [(0, .slice A_u u.length c_u), (1, .slice A_tm tm.length c_tm), (16, .bool (decide ((50 < ((u.length : Nat) : Int)) ∨ (50 < ((tm.length : Nat) : Int)))))] ([]) ?_ ?_
  ·
    refine wr_case 12 rfl (fun hc1 => ?_) (fun hc1 => ?_)
    ·
      refine wr_no rfl rfl rfl rfl ?_
      refine wr_no rfl rfl rfl rfl ?_
      refine wr_no rfl rfl rfl rfl ?_
      refine wr_y rfl (y_pickT rfl rfl) ?_
      refine wr_nil ?_
      exact ⟨(Sub.cons rfl (Sub.cons rfl (Sub.to rfl (mb_t (by first | omega | exact ⟨fun h => ⟨(by assumption), h⟩, fun h => h.2⟩ | exact .inl (by assumption) | exact ⟨.inr, fun h => h.resolve_left (by assumption)⟩ | exact ⟨fun h => h.resolve_left (by assumption), .inr⟩ | simp [*])) Sub.nil))), fun _ h => h⟩
    ·
      refine wr_yes rfl rfl ?_
      refine wr_y rfl (y_move rfl) ?_
      refine wr_yes rfl rfl ?_
      refine wr_y rfl (y_len Tryz.underlying24 rfl) ?_
      refine wr_yes rfl rfl ?_
      refine wr_y rfl (y_gt rfl rfl) ?_
      refine wr_y rfl (y_pickF rfl rfl) ?_
      refine wr_nil ?_
      exact ⟨(Sub.cons rfl (Sub.cons rfl (Sub.to rfl (mb (by first | omega | exact ⟨fun h => ⟨(by assumption), h⟩, fun h => h.2⟩ | exact .inl (by assumption) | exact ⟨.inr, fun h => h.resolve_left (by assumption)⟩ | exact ⟨fun h => h.resolve_left (by assumption), .inr⟩ | simp [*])) Sub.nil))), fun _ h => h⟩
  refine wr_nil ?_
  refine w_if rfl (fun hc2 => ?_) (fun hc2 => ?_)
  ·
    refine w_seq ?_
    refine w_reg ?_
    refine wr_y rfl (y_assign rfl) ?_
    refine wr_nil ?_
    refine w_retR (R1 := []) (fun _ h => (h.selR (F := []) (F' := []) [] (by decide) rfl).left (X := [])) ?_
    refine ⟨_, rfl, ?_⟩
    rfl
  ·
    refine w_skip ?_
    refine w_seq ?_
    refine w_reg ?_
    refine wr_a rfl (a_litI .u8 [] Tryz.underlying23 zs5 rfl rfl rfl) ?_
    rintro _ _ ⟨g_2, rfl, rfl⟩
    refine wr_y rfl (y_move rfl) ?_
    refine wr_a rfl (a_appendI 0 rfl Tryz.underlying23 zb5 rfl rfl rfl (h_u.c _) (by omega)) ?_
    rintro _ _ ⟨A_3, c_4, rfl, rfl⟩
    refine wr_rows (R1 := (⟨5, 1, A_3, (0 + u.length), c_4, ints .u8 (([]) ++ u), false⟩ :: [])) rfl ?_
    refine wr_as (v := .slice A_3 (0 + u.length) c_4) rfl ?_
    refine wr_a rfl (a_litI .i64 [] Tryz.underlying24 zs3 rfl rfl rfl) ?_
    rintro _ _ ⟨g_6, rfl, rfl⟩
    refine wr_y rfl (y_move rfl) ?_
    refine wr_a rfl (a_appendI 0 rfl Tryz.underlying24 zb3 rfl rfl rfl (h_tm.c _) (by omega)) ?_
    rintro _ _ ⟨A_7, c_8, rfl, rfl⟩
    refine wr_rows (R1 := (⟨3, 1, A_7, (0 + tm.length), c_8, ints .i64 (([]) ++ tm), false⟩ :: ⟨5, 1, A_3, (0 + u.length), c_4, ints .u8 (([]) ++ u), false⟩ :: [])) rfl ?_
    refine wr_as (v := .slice A_7 (0 + tm.length) c_8) rfl ?_
    refine wr_a rfl (a_callF en8 rfl (Ct.fresh (fun w hw => extBack_ct ((rdr 1 rfl) w hw) ((rdr 0 rfl) w hw) bh_u ⟨by show u.length ≤ 8000; omega, by show tm.length ≤ 1000; omega⟩))) ?_
    rintro _ _ ⟨_, rfl, A_9, c_10, vals_11, Rs_12, rfl, hsl_13, rfl⟩
    have hn_hsl_13 := hsl_13.1
    refine wr_sub (R1 := (⟨23, 1, A_9, vals_11.length, c_10, vals_11, false⟩ :: ⟨3, 1, A_7, (0 + tm.length), c_8, ints .i64 (([]) ++ tm), false⟩ :: ⟨5, 1, A_3, (0 + u.length), c_4, ints .u8 (([]) ++ u), false⟩ :: Rs_12)) (Sub.refl _) (fun _ h => Hp.toTail0 (X := [_]) (Y := [_, _]) h) ?_
    refine wr_y rfl (y_move rfl) ?_
    refine wr_y rfl (y_extract rfl rfl) ?_
    refine wr_y rfl (y_extract rfl rfl) ?_
    refine wr_y rfl (y_assign rfl) ?_
    refine wr_y rfl (y_assign rfl) ?_
    refine wr_nil ?_
    refine w_seq ?_
    refine w_reg ?_
    refine wr_y rfl (y_move rfl) ?_
    refine wr_y rfl (y_move rfl) ?_
    refine wr_a rfl (a_callF en16 rfl (Ct.fresh (fun w hw => back24_ct ((h_u.c _) w hw) ((h_tm.c _) w hw) bh_u ⟨by omega, by omega⟩))) ?_
    rintro _ _ ⟨_, rfl, A_15, c_16, vals_17, Rs_18, rfl, hsl_19, rfl⟩
    have hn_hsl_19 := hsl_19.1
    have hw_21 := hsl_19.left Rs_12
    have hw_22 := hsl_13.right Rs_18
    refine wr_sub (R1 := (⟨23, 1, A_15, vals_17.length, c_16, vals_17, false⟩ :: ⟨23, 1, A_9, vals_11.length, c_10, vals_11, false⟩ :: ⟨3, 1, A_7, (0 + tm.length), c_8, ints .i64 (([]) ++ tm), false⟩ :: ⟨5, 1, A_3, (0 + u.length), c_4, ints .u8 (([]) ++ u), false⟩ :: (Rs_18 ++ Rs_12))) (Sub.refl _) (fun _ h => Hp.toTail (X := [_]) (Y := [_, _, _]) h) ?_
    refine wr_y rfl (y_move rfl) ?_
    refine wr_y rfl (y_extract rfl rfl) ?_
    refine wr_y rfl (y_extract rfl rfl) ?_
    refine wr_y rfl (y_assign rfl) ?_
    refine wr_y rfl (y_assign rfl) ?_
    refine wr_nil ?_
    refine w_seq ?_
    refine w_reg ?_
    refine wr_y rfl (y_move rfl) ?_
    refine wr_y rfl (y_move rfl) ?_
    refine wr_a rfl (a_callF en9 rfl (Ct.quiet (fun w hw => rows9_ct ((rdr 1 rfl) w hw) (hw_22.slw (back_ok (L := [] ++ u) bh_u (by show u.length ≤ 8000; omega) rfl).1 (Hp.right (R' := [_, _, _, _]) hw)) ((rdr 0 rfl) w hw) (hw_21.slw (back_ok bh_u (by omega) rfl).1 (Hp.right (R' := [_, _, _, _]) hw)) (Nat.le_trans (back_ok (L := [] ++ u) bh_u (by show u.length ≤ 8000; omega) rfl).2 (by show tm.length ≤ _; omega))))) ?_
    rintro _ _ ⟨rfl, rfl⟩
    refine wr_setT 35 rfl (rfl) ?_
    refine wr_y rfl (y_move rfl) ?_
    refine wr_yes rfl rfl ?_
    refine wr_y rfl (y_move rfl) ?_
    refine wr_yes rfl rfl ?_
    refine wr_y rfl (y_move rfl) ?_
    refine wr_yes rfl rfl ?_
    refine wr_y rfl (Yl.t (y_eq rfl rfl) (rfl)) ?_
    refine wr_y rfl (y_pickT rfl rfl) ?_
    refine wr_y rfl (y_move rfl) ?_
    refine wr_yes rfl rfl ?_
    refine wr_a rfl (a_callF en15 rfl (Ct.quiet (fun w hw => known24_ct))) ?_
    rintro _ _ ⟨rfl, rfl⟩
    refine wr_y rfl (y_pickT rfl rfl) ?_
    refine wr_y rfl (y_assign rfl) ?_
    refine wr_nil ?_
    refine w_retR (R1 := []) (fun _ h => (h.selR (F := [_, _, _, _]) (F' := []) [] (by decide) rfl).left (X := [])) ?_
    refine ⟨_, rfl, ?_⟩
    rfl

theorem rep_turn {u : List Int} {k q : Nat} (hu : 0 < u.length) (hk : 0 < k) (hq : q ≤ u.length) : rep (turnS u q) k = turnS (rep u k) q := by
  have hl : (turnS u q).length = u.length := turnS_len u q
  have hr : (rep u k).length = k * u.length := by rw [rep_length, Int.toNat_natCast]
  have hle : u.length ≤ k * u.length := Nat.le_mul_of_pos_left _ hk
  refine om_ext ?_ ?_
  · rw [rep_length, hl, turnS_len, hr, Int.toNat_natCast]
  · have h1 : om (rep (turnS u q) k) = om (turnS u q) := funext fun i => om_rep (by omega) hk i
    rw [h1, rot_turn hq hu, rot_turn (by omega) (by omega), rot_rep hu hk]
theorem ring_rep {u : List Int} {n : Int} (hu : 0 < u.length) (hn : 1 ≤ n) : ringOf (rep u n) = ((ringOf u).1, (ringOf u).2 * n) := by
  obtain ⟨k, rfl⟩ : ∃ k : Nat, n = k := ⟨n.toNat, by omega⟩
  have hb := lrot_bd u
  have hc : 0 < (lw u).length := by rw [lw_len]; exact hu
  have ht := times_pos hc
  have hl := root_lyn hu
  have e1 : ringOf (rep u k) = ringOf (rep (lw u) k) := by
    have := rep_turn (u := u) (k := k) (q := (lrot u).toNat) hu (by omega) (by omega)
    rw [Int.toNat_of_nonneg hb.1] at this
    rw [show rep (lw u) k = rep (turnS u (lrot u)) k from rfl, this]
    have hrl : (rep u k).length = k * u.length := by rw [rep_length, Int.toNat_natCast]
    have hle : u.length ≤ k * u.length := Nat.le_mul_of_pos_left _ (by omega)
    have h2 := ringOf_turn (u := rep u k) (r := (lrot u).toNat) (by omega) (by omega)
    rw [Int.toNat_of_nonneg hb.1] at h2
    exact h2.symm
  have e2 : rep (lw u) k = rep (ringOf u).1 ((ringOf u).2 * k) := by
    have h1 := unring_root hc
    obtain ⟨t, hte⟩ : ∃ t : Nat, timesW (lw u) = t := ⟨(timesW (lw u)).toNat, by omega⟩
    have hr : 0 < (rootW (lw u)).length := by have := root_len hc; have := rl_range hc; omega
    show rep (lw u) k = rep (rootW (lw u)) (timesW (lw u) * k)
    rw [hte] at h1 ⊢
    have hlen : (lw u).length = t * (rootW (lw u)).length := by
      have := congrArg List.length h1
      rw [rep_length, Int.toNat_natCast] at this
      exact this.symm
    rw [← Int.natCast_mul]
    have hk0 : 0 < k := by omega
    refine om_ext ?_ ?_
    · rw [rep_length, rep_length, Int.toNat_natCast, Int.toNat_natCast, hlen]
      rw [Nat.mul_comm t k, Nat.mul_assoc]
    · funext i
      rw [om_rep hc hk0, om_rep hr (Nat.mul_pos (by omega) hk0), root_om hc]
  rw [e1, e2]
  exact ring_lynrep hl (by
    have h3 : 0 < (ringOf u).2 := ht
    exact Int.mul_pos h3 (by omega))
theorem rings_repl {u : List Int} (k : Nat) (hu : 0 < u.length) : ringS (List.replicate k u) = List.replicate k (ringOf u) := by
  have e : ringsOf (List.replicate k u) = List.replicate k (ringOf u) := by
    unfold ringsOf
    rw [List.filter_eq_self.2, List.map_replicate]
    intro w hw
    obtain ⟨_, rfl⟩ := List.mem_replicate.1 hw
    exact decide_eq_true hu
  refine (ringS_one (by rw [e]) (List.pairwise_replicate.2 (.inr ?_))).symm
  rw [(kcmp_eq _ _).2 rfl]; omega
theorem expR_repl (r : RT) : ∀ k : Nat, expR (List.replicate k r) = List.replicate (k * r.2.toNat) r.1
  | 0 => by simp [expR]
  | k + 1 => by rw [List.replicate_succ, expR_cons, expR_repl r k, List.replicate_append_replicate, Nat.succ_mul, Nat.add_comm]
theorem exs_repl {u : List Int} {n : Int} (hu : 0 < u.length) (hn : 1 ≤ n) : exs (List.replicate n.toNat u) = exs [rep u n] := by
  have h1 := rings_repl n.toNat hu
  have hr : 0 < (rep u n).length := by rw [rep_length]; exact Nat.mul_pos (by omega) hu
  have h2 := rings_repl 1 hr
  have ht : 0 < (ringOf u).2 := times_pos (by rw [lw_len]; exact hu)
  unfold exs
  rw [h1, show [rep u n] = List.replicate 1 (rep u n) from rfl, h2, expR_repl, expR_repl, ring_rep hu hn, Nat.one_mul]
  congr 1
  show n.toNat * (ringOf u).2.toNat = ((ringOf u).2 * n).toNat
  rw [Int.toNat_mul (by omega) (by omega), Nat.mul_comm]
theorem times_all {u L1 TS1 L2 TS2 : List Int} {n e1 e2 : Int} (hu : 1 ≤ u.length ∧ u.length ≤ 8) (hn : 1 ≤ n ∧ n ≤ 6) (bh : ByteL u) (hx1 : ExtR (List.replicate n.toNat u) L1 TS1 e1) (hx2 : ExtR [rep u n] L2 TS2 e2) :
    e1 = 0 ∧ e2 = 0 ∧ L2 = L1 ∧ (TS1.length : Int) = n ∧ TS2.length = 1 ∧ rd TS2 0 = n * rd TS1 0 ∧ (0 ≤ rd TS1 0 ∧ rd TS1 0 ≤ 8) := by
  have hrl : (rep u n).length = n.toNat * u.length := rep_length u n
  have hpos : 0 < (rep u n).length := by rw [hrl]; exact Nat.mul_pos (by omega) (by omega)
  have hle : (rep u n).length ≤ 48 := by rw [hrl]; exact Nat.mul_le_mul (show n.toNat ≤ 6 by omega) hu.2
  have hf1 : (List.replicate n.toNat u).flatten.length = (rep u n).length := rfl
  have a1 := (hx1.code (by omega)).2.2 (by rw [List.length_replicate]; omega) (fun ⟨w, hw, e⟩ => by obtain ⟨_, rfl⟩ := List.mem_replicate.1 hw; omega)
  have a2 := (hx2.code (by simp; omega)).2.2 (by simp) (fun ⟨w, hw, e⟩ => by obtain rfl := List.mem_singleton.1 hw; omega)
  have hb1 : ∀ w ∈ List.replicate n.toNat u, ByteL w := fun w hw => by obtain ⟨_, rfl⟩ := List.mem_replicate.1 hw; exact bh
  rcases hx1 with ⟨h, _⟩ | ⟨_, h, _⟩ | ⟨_, _, _, ⟨T, hp, ho, rfl⟩, rfl⟩
  · omega
  · omega
  rcases hx2 with ⟨h, _⟩ | ⟨_, h, _⟩ | ⟨_, _, _, ⟨T', hp', ho', rfl⟩, rfl⟩
  · omega
  · omega
  have hr1 := rings_repl n.toNat (u := u) (by omega)
  have hr2 := rings_repl 1 hpos
  have hc : 0 < (lw u).length := by rw [lw_len]; omega
  have ht := times_pos hc
  have hm := times_mul hc
  have hrg := rl_range hc
  rw [lw_len] at hm
  have ht8 : timesW (lw u) ≤ 8 := by
    have := Int.mul_le_mul_of_nonneg_left hrg.1 (show 0 ≤ timesW (lw u) by omega)
    omega
  have e1 : rd ((ringS (List.replicate n.toNat u)).map Prod.snd) 0 = timesW (lw u) := by
    rw [hr1, show n.toNat = (n.toNat - 1) + 1 by omega, List.replicate_succ]
    rfl
  have e2 : rd ((ringS [rep u n]).map Prod.snd) 0 = timesW (lw u) * n := by
    rw [show [rep u n] = List.replicate 1 (rep u n) from rfl, hr2, ring_rep (by omega) hn.1]
    rfl
  refine ⟨a1, a2, (turned_ext hb1 hp ho).2 _ T' (exs_repl (by omega) hn.1).symm hp' ho', ?_, ?_, by rw [e1, e2, Int.mul_comm], by rw [e1]; exact ⟨by omega, ht8⟩⟩
  · rw [hr1, List.length_map, List.length_replicate]; omega
  · rw [show [rep u n] = List.replicate 1 (rep u n) from rfl, hr2]; rfl
set_option maxRecDepth 100000 in
set_option maxHeartbeats 3000000 in
theorem extTimes_ct {w : World} {A_u : Option Addr} {n_u c_u : Nat} {u : List Int} {n : Int} (h_u : Rd w A_u n_u c_u 1 (ints .u8 u)) (bh_u : ByteL u) :
    Ct Tryz.prog 6 #[.slice A_u n_u c_u, .int .i64 n] w.heap.size w [] (fun v R' => v = .bool true) := by
  obtain rfl := h_u.lenI
  refine fn1 Tryz.func6 rfl rfl rfl ?_
  have m_u := h_u.max
  refine w_seq ?_
  refine w_reg ?_
  refine wr_y rfl (y_assign rfl) ?_
  refine wr_nil ?_
  refine w_seq ?_
  refine w_seq ?_
  refine w_reg ?_
  refine wr_y rfl (y_move rfl) ?_
  refine wr_y rfl (y_len Tryz.underlying23 rfl) ?_
  refine wr_y rfl (y_lt rfl rfl) ?_
  refine wr_y rfl (y_move rfl) ?_
  refine wr_mid 4 [(0, .slice A_u u.length c_u), (1, .int .i64 n), (23, .bool (decide ((((u.length : Nat) : Int) < 1) ∨ (8 < ((u.length : Nat) : Int)))))] ([]) ?_ ?_
  ·
    refine wr_case 19 rfl (fun hc1 => ?_) (fun hc1 => ?_)
    ·
      refine wr_no rfl rfl rfl rfl ?_
      refine wr_no rfl rfl rfl rfl ?_
      refine wr_no rfl rfl rfl rfl ?_
      refine wr_y rfl (y_pickT rfl rfl) ?_
      refine wr_nil ?_
      exact ⟨(Sub.cons rfl (Sub.cons rfl (Sub.to rfl (mb_t (by first | omega | exact ⟨fun h => ⟨(by assumption), h⟩, fun h => h.2⟩ | exact .inl (by assumption) | exact ⟨.inr, fun h => h.resolve_left (by assumption)⟩ | exact ⟨fun h => h.resolve_left (by assumption), .inr⟩ | simp [*])) Sub.nil))), fun _ h => h⟩
    ·
      refine wr_yes rfl rfl ?_
      refine wr_y rfl (y_move rfl) ?_
      refine wr_yes rfl rfl ?_
      refine wr_y rfl (y_len Tryz.underlying23 rfl) ?_
      refine wr_yes rfl rfl ?_
      refine wr_y rfl (y_gt rfl rfl) ?_
      refine wr_y rfl (y_pickF rfl rfl) ?_
      refine wr_nil ?_
      exact ⟨(Sub.cons rfl (Sub.cons rfl (Sub.to rfl (mb (by first | omega | exact ⟨fun h => ⟨(by assumption), h⟩, fun h => h.2⟩ | exact .inl (by assumption) | exact ⟨.inr, fun h => h.resolve_left (by assumption)⟩ | exact ⟨fun h => h.resolve_left (by assumption), .inr⟩ | simp [*])) Sub.nil))), fun _ h => h⟩
  refine wr_y rfl (y_move rfl) ?_
  refine wr_mid 3 [(0, .slice A_u u.length c_u), (1, .int .i64 n), (27, .bool (decide (((((u.length : Nat) : Int) < 1) ∨ (8 < ((u.length : Nat) : Int))) ∨ (n < 1))))] ([]) ?_ ?_
  ·
    refine wr_case 24 rfl (fun hc2 => ?_) (fun hc2 => ?_)
    ·
      refine wr_no rfl rfl rfl rfl ?_
      refine wr_no rfl rfl rfl rfl ?_
      refine wr_y rfl (y_pickT rfl rfl) ?_
      refine wr_nil ?_
      exact ⟨(Sub.cons rfl (Sub.cons rfl (Sub.to rfl (mb_t (by first | omega | exact ⟨fun h => ⟨(by assumption), h⟩, fun h => h.2⟩ | exact .inl (by assumption) | exact ⟨.inr, fun h => h.resolve_left (by assumption)⟩ | exact ⟨fun h => h.resolve_left (by assumption), .inr⟩ | simp [*])) Sub.nil))), fun _ h => h⟩
    ·
      refine wr_yes rfl rfl ?_
      refine wr_y rfl (y_move rfl) ?_
      refine wr_yes rfl rfl ?_
      refine wr_y rfl (y_lt rfl rfl) ?_
      refine wr_y rfl (y_pickF rfl rfl) ?_
      refine wr_nil ?_
      exact ⟨(Sub.cons rfl (Sub.cons rfl (Sub.to rfl (mb (by first | omega | exact ⟨fun h => ⟨(by assumption), h⟩, fun h => h.2⟩ | exact .inl (by assumption) | exact ⟨.inr, fun h => h.resolve_left (by assumption)⟩ | exact ⟨fun h => h.resolve_left (by assumption), .inr⟩ | simp [*])) Sub.nil))), fun _ h => h⟩
  refine wr_y rfl (y_move rfl) ?_
  refine wr_mid 3 [(0, .slice A_u u.length c_u), (1, .int .i64 n), (31, .bool (decide ((((((u.length : Nat) : Int) < 1) ∨ (8 < ((u.length : Nat) : Int))) ∨ (n < 1)) ∨ (6 < n))))] ([]) ?_ ?_
  ·
    refine wr_case 28 rfl (fun hc3 => ?_) (fun hc3 => ?_)
    ·
      refine wr_no rfl rfl rfl rfl ?_
      refine wr_no rfl rfl rfl rfl ?_
      refine wr_y rfl (y_pickT rfl rfl) ?_
      refine wr_nil ?_
      exact ⟨(Sub.cons rfl (Sub.cons rfl (Sub.to rfl (mb_t (by first | omega | exact ⟨fun h => ⟨(by assumption), h⟩, fun h => h.2⟩ | exact .inl (by assumption) | exact ⟨.inr, fun h => h.resolve_left (by assumption)⟩ | exact ⟨fun h => h.resolve_left (by assumption), .inr⟩ | simp [*])) Sub.nil))), fun _ h => h⟩
    ·
      refine wr_yes rfl rfl ?_
      refine wr_y rfl (y_move rfl) ?_
      refine wr_yes rfl rfl ?_
      refine wr_y rfl (y_gt rfl rfl) ?_
      refine wr_y rfl (y_pickF rfl rfl) ?_
      refine wr_nil ?_
      exact ⟨(Sub.cons rfl (Sub.cons rfl (Sub.to rfl (mb (by first | omega | exact ⟨fun h => ⟨(by assumption), h⟩, fun h => h.2⟩ | exact .inl (by assumption) | exact ⟨.inr, fun h => h.resolve_left (by assumption)⟩ | exact ⟨fun h => h.resolve_left (by assumption), .inr⟩ | simp [*])) Sub.nil))), fun _ h => h⟩
  refine wr_nil ?_
  refine w_if rfl (fun hc4 => ?_) (fun hc4 => ?_)
  ·
    refine w_seq ?_
    refine w_reg ?_
    refine wr_y rfl (y_assign rfl) ?_
    refine wr_nil ?_
    refine w_retR (R1 := []) (fun _ h => (h.selR (F := []) (F' := []) [] (by decide) rfl).left (X := [])) ?_
    refine ⟨_, rfl, ?_⟩
    rfl
  ·
    refine w_skip ?_
    refine w_seq ?_
    refine w_reg ?_
    refine wr_sub (R1 := (⟨5, 1, none, 0, 0, ints .u8 ([]), false⟩ :: [])) (Sub.refl _) (fun _ h => h.nil 5 1) ?_
    refine wr_y rfl (y_assign rfl) ?_
    refine wr_nil ?_
    refine w_seq ?_
    refine w_reg ?_
    refine wr_sub (R1 := (⟨23, 1, none, 0, 0, [], false⟩ :: ⟨5, 1, none, 0, 0, ints .u8 ([]), false⟩ :: [])) (Sub.refl _) (fun _ h => h.nil 23 1) ?_
    refine wr_y rfl (y_assign rfl) ?_
    refine wr_nil ?_
    refine w_seq ?_
    refine w_seq ?_
    refine w_reg ?_
    refine wr_y rfl (y_assign rfl) ?_
    refine wr_nil ?_
    refine w_block ?_
    refine w_loop9 (fun (i : Int) (A1 : Option Addr) (n1 : Nat) (c1 : Nat) (acc : List Int) (A2 : Option Addr) (n2 : Nat) (c2 : Nat) (vals : List Value) => [(0, .slice A_u u.length c_u), (1, .int .i64 n), (5, .slice A1 n1 c1), (6, .slice A2 n2 c2), (7, .int .i64 i)]) (fun (i : Int) (A1 : Option Addr) (n1 : Nat) (c1 : Nat) (acc : List Int) (A2 : Option Addr) (n2 : Nat) (c2 : Nat) (vals : List Value) => (⟨23, 1, A2, n2, c2, vals, false⟩ :: ⟨5, 1, A1, n1, c1, ints .u8 acc, false⟩ :: [])) (fun (i : Int) (A1 : Option Addr) (n1 : Nat) (c1 : Nat) (acc : List Int) (A2 : Option Addr) (n2 : Nat) (c2 : Nat) (vals : List Value) => (0 ≤ i) ∧ (i ≤ n) ∧ (n1 = acc.length) ∧ (acc = rep u i) ∧ (n2 = vals.length) ∧ (SlW .u8 w vals (List.replicate i.toNat u))) (fun (i : Int) (A1 : Option Addr) (n1 : Nat) (c1 : Nat) (acc : List Int) (A2 : Option Addr) (n2 : Nat) (c2 : Nat) (vals : List Value) => (n - i).toNat) ?_ ?_
    ·
      exact ⟨0, none, 0, 0, [], none, 0, 0, [], ⟨(by omega), (by omega), (rfl), (rfl), (rfl), (slw_none _ _)⟩, (Sub.cons rfl (Sub.cons rfl (Sub.cons rfl (Sub.cons rfl (Sub.cons rfl Sub.nil))))), fun _ h => h⟩
    intro i A1 n1 c1 acc A2 n2 c2 vals ⟨hi0, hi1, hn1, hacc, hn2, hsw⟩
    have hal : acc.length ≤ 48 := by rw [hacc, rep_length]; exact Nat.mul_le_mul (show i.toNat ≤ 6 by omega) (show u.length ≤ 8 by omega)
    have hsn := hsw.1
    rw [List.length_replicate] at hsn
    refine w_seq ?_
    refine w_seq ?_
    refine w_reg ?_
    refine wr_y rfl (y_move rfl) ?_
    refine wr_y rfl (y_move rfl) ?_
    refine wr_y rfl (y_lt rfl rfl) ?_
    refine wr_nil ?_
    refine w_if rfl (fun hc5 => ?_) (fun hc5 => ?_)
    ·
      refine w_skip ?_
      refine w_seq ?_
      refine w_block ?_
      refine w_seq ?_
      refine w_reg ?_
      refine wr_y rfl (y_move rfl) ?_
      refine wr_y rfl (y_move rfl) ?_
      refine wr_a rfl (a_appendI 1 rfl Tryz.underlying23 zb5 rfl rfl rfl (h_u.c _) (by omega)) ?_
      rintro _ _ ⟨A_1, c_2, rfl, rfl⟩
      refine wr_rows (R1 := (⟨23, 1, A2, n2, c2, vals, false⟩ :: ⟨5, 1, A_1, (n1 + u.length), c_2, ints .u8 (acc ++ u), false⟩ :: [])) rfl ?_
      refine wr_as (v := .slice A_1 (n1 + u.length) c_2) rfl ?_
      refine wr_y rfl (y_assign rfl) ?_
      refine wr_nil ?_
      refine w_reg ?_
      refine wr_y rfl (y_move rfl) ?_
      refine wr_y rfl (y_move rfl) ?_
      refine wr_a rfl (a_lit [Value.slice A_u u.length c_u] Tryz.underlying22 zs23 rfl rfl rfl rfl) ?_
      rintro _ _ ⟨g_4, rfl, rfl⟩
      refine wr_a rfl (a_append 1 rfl rfl Tryz.underlying22 zb23 rfl rfl rfl rfl rfl (rdr 0 rfl) (by simp [Value.oneCell']) (by dsimp only; omega)) ?_
      rintro _ _ ⟨A_5, c_6, rfl, rfl⟩
      refine wr_rows (R1 := (⟨23, 1, (some ⟨g_4, 0, none⟩), 1, 1, [Value.slice A_u u.length c_u], false⟩ :: ⟨23, 1, A_5, (n2 + 1), c_6, vals ++ ([Value.slice A_u u.length c_u]), false⟩ :: ⟨5, 1, A_1, (n1 + u.length), c_2, ints .u8 (acc ++ u), false⟩ :: [])) rfl ?_
      refine wr_as (v := .slice A_5 (n2 + 1) c_6) rfl ?_
      refine wr_y rfl (y_assign rfl) ?_
      refine wr_nil ?_
      refine w_reg ?_
      refine wr_y rfl (y_move rfl) ?_
      refine wr_y rfl (y_addI rfl rfl (by omega)) ?_
      refine wr_y rfl (y_assign rfl) ?_
      refine wr_nil ?_
      exact ⟨i + 1, A_1, n1 + u.length, c_2, acc ++ u, A_5, n2 + 1, c_6, vals ++ ([Value.slice A_u u.length c_u]), ⟨(by omega), (by omega), (by rw [List.length_append, hn1]), (by rw [rep_succ hi0, hacc]), (by rw [List.length_append, hn2]; rfl), (by
          rw [show (i + 1).toNat = i.toNat + 1 by omega, List.replicate_succ']
          exact hsw.snoc h_u (fun x hx => wf_byte (bh_u x hx)) (by omega))⟩, (by omega), (Sub.cons rfl (Sub.cons rfl (Sub.cons rfl (Sub.cons rfl (Sub.cons rfl Sub.nil))))), fun _ h => h.selR (F := [_, _, _]) (F' := [_, _]) [1, 2] (by decide) rfl⟩
    ·
      obtain rfl : n = i := by omega
      obtain rfl := hn1
      obtain rfl := hacc
      refine w_exit ?_
      refine w_seq ?_
      refine w_reg ?_
      refine wr_y rfl (y_move rfl) ?_
      refine wr_a rfl (a_callF en7 rfl (Ct.fresh (fun w hw => extTurn_ct ((rdr 0 rfl) w hw) (hsw.c hw) ⟨fun w hw => by obtain ⟨_, rfl⟩ := List.mem_replicate.1 hw; omega, by rw [List.length_replicate]; omega⟩))) ?_
      rintro _ _ ⟨_, rfl, A_7, A_9, c_8, c_10, L1, TS1, e1, rfl, hx1, rfl⟩
      refine wr_y rfl (y_move rfl) ?_
      refine wr_y rfl (y_extract rfl rfl) ?_
      refine wr_y rfl (y_extract rfl rfl) ?_
      refine wr_y rfl (y_extract rfl rfl) ?_
      refine wr_y rfl (y_assign rfl) ?_
      refine wr_y rfl (y_assign rfl) ?_
      refine wr_y rfl (y_assign rfl) ?_
      refine wr_nil ?_
      refine w_seq ?_
      refine w_reg ?_
      refine wr_y rfl (y_move rfl) ?_
      refine wr_a rfl (a_lit [Value.slice A1 ((rep u n).length) c1] Tryz.underlying22 zs23 rfl rfl rfl rfl) ?_
      rintro _ _ ⟨g_14, rfl, rfl⟩
      refine wr_a rfl (a_callF en7 rfl (Ct.fresh (fun w hw => extTurn_ct ((rdr 0 rfl) w hw) ((slw_none _ _).snoc ((rdr 4 rfl) w hw) (fun x hx => wf_byte (rep_bytes bh_u _ x hx)) (by omega)) ⟨fun w hw => by obtain rfl := List.mem_singleton.1 hw; omega, by show 1 ≤ 100000; decide⟩))) ?_
      rintro _ _ ⟨_, rfl, A_15, A_17, c_16, c_18, L2, TS2, e2, rfl, hx2, rfl⟩
      refine wr_y rfl (y_move rfl) ?_
      refine wr_y rfl (y_extract rfl rfl) ?_
      refine wr_y rfl (y_extract rfl rfl) ?_
      refine wr_y rfl (y_extract rfl rfl) ?_
      refine wr_y rfl (y_assign rfl) ?_
      refine wr_y rfl (y_assign rfl) ?_
      refine wr_y rfl (y_assign rfl) ?_
      refine wr_nil ?_
      refine w_seq ?_
      refine w_seq ?_
      refine w_reg ?_
      refine wr_y rfl (y_move rfl) ?_
      refine wr_y rfl (Yl.f (y_ne rfl rfl) (by have := (times_all ⟨by omega, by omega⟩ ⟨by omega, by omega⟩ bh_u hx1 hx2).1; omega)) ?_
      refine wr_y rfl (y_move rfl) ?_
      refine wr_yes rfl rfl ?_
      refine wr_y rfl (y_move rfl) ?_
      refine wr_yes rfl rfl ?_
      refine wr_y rfl (Yl.f (y_ne rfl rfl) (by have := (times_all ⟨by omega, by omega⟩ ⟨by omega, by omega⟩ bh_u hx1 hx2).2.1; omega)) ?_
      refine wr_y rfl (y_pickF rfl rfl) ?_
      refine wr_y rfl (y_move rfl) ?_
      refine wr_yes rfl rfl ?_
      refine wr_y rfl (y_move rfl) ?_
      refine wr_yes rfl rfl ?_
      refine wr_y rfl (y_toStr Tryz.underlying23 Tryz.underlying5 Tryz.underlying9 rfl (rdr 3 rfl)) ?_
      refine wr_yes rfl rfl ?_
      refine wr_y rfl (y_move rfl) ?_
      refine wr_yes rfl rfl ?_
      refine wr_y rfl (y_toStr Tryz.underlying23 Tryz.underlying5 Tryz.underlying9 rfl (rdr 0 rfl)) ?_
      refine wr_yes rfl rfl ?_
      refine wr_y rfl (Yl.f (y_neL rfl rfl (hx1.bytes fun w hw => by obtain ⟨_, rfl⟩ := List.mem_replicate.1 hw; exact bh_u) (by rw [(times_all ⟨by omega, by omega⟩ ⟨by omega, by omega⟩ bh_u hx1 hx2).2.2.1]; exact (hx1.bytes fun w hw => by obtain ⟨_, rfl⟩ := List.mem_replicate.1 hw; exact bh_u))) (fun h => h (times_all ⟨by omega, by omega⟩ ⟨by omega, by omega⟩ bh_u hx1 hx2).2.2.1.symm)) ?_
      refine wr_y rfl (y_pickF rfl rfl) ?_
      refine wr_y rfl (y_move rfl) ?_
      refine wr_yes rfl rfl ?_
      refine wr_y rfl (y_move rfl) ?_
      refine wr_yes rfl rfl ?_
      refine wr_y rfl (y_len Tryz.underlying24 rfl) ?_
      refine wr_yes rfl rfl ?_
      refine wr_y rfl (y_move rfl) ?_
      refine wr_yes rfl rfl ?_
      refine wr_y rfl (Yl.f (y_ne rfl rfl) (by have := (times_all ⟨by omega, by omega⟩ ⟨by omega, by omega⟩ bh_u hx1 hx2).2.2.2.1; omega)) ?_
      refine wr_y rfl (y_pickF rfl rfl) ?_
      refine wr_y rfl (y_move rfl) ?_
      refine wr_yes rfl rfl ?_
      refine wr_y rfl (y_move rfl) ?_
      refine wr_yes rfl rfl ?_
      refine wr_y rfl (y_len Tryz.underlying24 rfl) ?_
      refine wr_yes rfl rfl ?_
      refine wr_y rfl (Yl.f (y_ne rfl rfl) (by have := (times_all ⟨by omega, by omega⟩ ⟨by omega, by omega⟩ bh_u hx1 hx2).2.2.2.2.1; omega)) ?_
      refine wr_y rfl (y_pickF rfl rfl) ?_
      refine wr_nil ?_
      refine w_false rfl ?_
      refine w_skip ?_
      refine w_seq ?_
      refine w_reg ?_
      refine wr_y rfl (y_move rfl) ?_
      refine wr_y rfl (y_move rfl) ?_
      refine wr_a rfl (a_callF en8 rfl (Ct.fresh (fun w hw => extBack_ct ((rdr 3 rfl) w hw) ((rdr 1 rfl) w hw) (hx1.bytes fun w hw => by obtain ⟨_, rfl⟩ := List.mem_replicate.1 hw; exact bh_u) ⟨(Nat.le_trans hx1.len (by show (rep u n).length ≤ 8000; omega)), by have := (times_all ⟨by omega, by omega⟩ ⟨by omega, by omega⟩ bh_u hx1 hx2).2.2.2.2.1; omega⟩))) ?_
      rintro _ _ ⟨_, rfl, A_21, c_22, vals_23, Rs_24, rfl, hsl_25, rfl⟩
      have hn_hsl_25 := hsl_25.1
      refine wr_sub (R1 := (⟨23, 1, A_21, vals_23.length, c_22, vals_23, false⟩ :: ⟨5, 1, A_15, L2.length, c_16, ints .u8 L2, false⟩ :: ⟨3, 1, A_17, TS2.length, c_18, ints .i64 TS2, false⟩ :: ⟨23, 1, (some ⟨g_14, 0, none⟩), 1, 1, [Value.slice A1 ((rep u n).length) c1], false⟩ :: ⟨5, 1, A_7, L1.length, c_8, ints .u8 L1, false⟩ :: ⟨3, 1, A_9, TS1.length, c_10, ints .i64 TS1, false⟩ :: ⟨23, 1, A2, n2, c2, vals, false⟩ :: ⟨5, 1, A1, (rep u n).length, c1, ints .u8 (rep u n), false⟩ :: Rs_24)) (Sub.refl _) (fun _ h => Hp.toTail0 (X := [_]) (Y := [_, _, _, _, _, _, _]) h) ?_
      refine wr_y rfl (y_move rfl) ?_
      refine wr_y rfl (y_extract rfl rfl) ?_
      refine wr_y rfl (y_extract rfl rfl) ?_
      refine wr_y rfl (y_assign rfl) ?_
      refine wr_y rfl (y_assign rfl) ?_
      refine wr_nil ?_
      refine w_seq ?_
      refine w_regd mixed ?_
      refine wd_y 0 rfl (by kernel_rfl) rfl (y_move rfl) ?_
      refine wd_y 1 rfl (by kernel_rfl) rfl (Yl.t (y_eq rfl rfl) ((congrArg oE ((by rw [← (times_all ⟨by omega, by omega⟩ ⟨by omega, by omega⟩ bh_u hx1 hx2).2.2.1]; exact ext_round hx2 (times_all ⟨by omega, by omega⟩ ⟨by omega, by omega⟩ bh_u hx1 hx2).2.1 (fun w hw => by obtain rfl := List.mem_singleton.1 hw; exact rep_bytes bh_u _)) : _ = some (canon [rep u n]))).trans rfl)) ?_
      refine wd_y 2 rfl (by kernel_rfl) rfl (y_move rfl) ?_
      refine wd_yg 3 rfl (by kernel_rfl) rfl rfl rfl (y_move rfl) ?_
      refine wd_yg 4 rfl (by kernel_rfl) rfl rfl rfl (y_move rfl) ?_
      refine wd_ag 5 rfl (by kernel_rfl) rfl rfl rfl (a_lit [Value.slice A1 ((rep u n).length) c1] Tryz.underlying22 zs23 rfl rfl rfl rfl) ?_
      rintro _ _ ⟨g_28, rfl, rfl⟩
      refine ⟨.inr fun _ h => h.right (R' := [_]), ?_⟩
      refine wd_ag 6 rfl (by kernel_rfl) rfl rfl rfl (a_callF en10 rfl (Ct.fresh (fun w hw => canon9_ct ((rdr 0 rfl) w hw) ((slw_none _ _).snoc ((rdr 8 rfl) w hw) (fun x hx => wf_byte (rep_bytes bh_u _ x hx)) (by omega)) ⟨fun w hw => by obtain rfl := List.mem_singleton.1 hw; omega, by show 1 ≤ 100000; decide⟩))) ?_
      rintro _ _ ⟨_, rfl, A_29, c_30, vals_31, Rs_32, rfl, hsl_33, rfl⟩
      refine ⟨.inl (by kernel_rfl), ?_⟩
      have hn_hsl_33 := hsl_33.1
      have hw_35 := hsl_33.left Rs_24
      have hw_36 := hsl_25.right Rs_32
      refine wd_iff (R1 := (⟨23, 1, A_29, vals_31.length, c_30, vals_31, false⟩ :: ⟨23, 1, (some ⟨g_28, 0, none⟩), 1, 1, [Value.slice A1 ((rep u n).length) c1], false⟩ :: ⟨23, 1, A_21, vals_23.length, c_22, vals_23, false⟩ :: ⟨5, 1, A_15, L2.length, c_16, ints .u8 L2, false⟩ :: ⟨3, 1, A_17, TS2.length, c_18, ints .i64 TS2, false⟩ :: ⟨23, 1, (some ⟨g_14, 0, none⟩), 1, 1, [Value.slice A1 ((rep u n).length) c1], false⟩ :: ⟨5, 1, A_7, L1.length, c_8, ints .u8 L1, false⟩ :: ⟨3, 1, A_9, TS1.length, c_10, ints .i64 TS1, false⟩ :: ⟨23, 1, A2, n2, c2, vals, false⟩ :: ⟨5, 1, A1, (rep u n).length, c1, ints .u8 (rep u n), false⟩ :: (Rs_32 ++ Rs_24))) (fun _ => Hp.toTailI (X := [_]) (Y := [_, _, _, _, _, _, _, _, _])) ?_
      refine wd_ag 7 rfl (by kernel_rfl) rfl rfl rfl (a_callF en9 rfl (Ct.quiet (fun w hw => rows9_ct ((rdr 2 rfl) w hw) (hw_36.slw (back_ok (hx1.bytes fun w hw => by obtain ⟨_, rfl⟩ := List.mem_replicate.1 hw; exact bh_u) (Nat.le_trans hx1.len (by show (rep u n).length ≤ 8000; omega)) rfl).1 (Hp.right (R' := [_, _, _, _, _, _, _, _, _, _]) hw)) ((rdr 0 rfl) w hw) (hw_35.slw (canon_ok (fun l hl => by obtain rfl := List.mem_singleton.1 hl; exact ⟨rep_bytes bh_u _, by omega⟩)) (Hp.right (R' := [_, _, _, _, _, _, _, _, _, _]) hw)) (Nat.le_trans (back_ok (hx1.bytes fun w hw => by obtain ⟨_, rfl⟩ := List.mem_replicate.1 hw; exact bh_u) (Nat.le_trans hx1.len (by show (rep u n).length ≤ 8000; omega)) rfl).2 (by have := (times_all ⟨by omega, by omega⟩ ⟨by omega, by omega⟩ bh_u hx1 hx2).2.2.2.2.1; omega))))) ?_
      rintro _ _ ⟨rfl, rfl⟩
      refine ⟨.inr fun _ h => h, ?_⟩
      refine wd_as (v := .bool true) (congrArg Value.bool (decide_eq_true ((congrArg (fun o => Option.getD o []) ((by rw [← (times_all ⟨by omega, by omega⟩ ⟨by omega, by omega⟩ bh_u hx1 hx2).2.2.1]; exact ext_round hx2 (times_all ⟨by omega, by omega⟩ ⟨by omega, by omega⟩ bh_u hx1 hx2).2.1 (fun w hw => by obtain rfl := List.mem_singleton.1 hw; exact rep_bytes bh_u _)) : _ = some (canon [rep u n]))).trans rfl))) ?_
      refine wd_y 8 rfl (by kernel_rfl) rfl (y_pickT rfl rfl) ?_
      refine wd_y 9 rfl (by kernel_rfl) rfl (y_move rfl) ?_
      refine wd_yg 10 rfl (by kernel_rfl) rfl rfl rfl (y_move rfl) ?_
      refine wd_yg 11 rfl (by kernel_rfl) rfl rfl rfl (y_index1 Tryz.underlying24 sz3 rfl rfl (rdr 4 rfl) (by have := (times_all ⟨by omega, by omega⟩ ⟨by omega, by omega⟩ bh_u hx1 hx2).2.2.2.2.1; omega) (by have := (times_all ⟨by omega, by omega⟩ ⟨by omega, by omega⟩ bh_u hx1 hx2).2.2.2.2.1; omega)) ?_
      refine wd_yg 12 rfl (by kernel_rfl) rfl rfl rfl (y_ldI Tryz.underlying3 rfl rfl (rdr 4 rfl) (by have := (times_all ⟨by omega, by omega⟩ ⟨by omega, by omega⟩ bh_u hx1 hx2).2.2.2.2.1; omega) (by have := (times_all ⟨by omega, by omega⟩ ⟨by omega, by omega⟩ bh_u hx1 hx2).2.2.2.2.1; omega)) ?_
      refine wd_yg 13 rfl (by kernel_rfl) rfl rfl rfl (y_move rfl) ?_
      refine wd_yg 14 rfl (by kernel_rfl) rfl rfl rfl (y_move rfl) ?_
      refine wd_yg 15 rfl (by kernel_rfl) rfl rfl rfl (y_index1 Tryz.underlying24 sz3 rfl rfl (rdr 7 rfl) (by have := (times_all ⟨by omega, by omega⟩ ⟨by omega, by omega⟩ bh_u hx1 hx2).2.2.2.1; omega) (by have := (times_all ⟨by omega, by omega⟩ ⟨by omega, by omega⟩ bh_u hx1 hx2).2.2.2.1; omega)) ?_
      refine wd_yg 16 rfl (by kernel_rfl) rfl rfl rfl (y_ldI Tryz.underlying3 rfl rfl (rdr 7 rfl) (by have := (times_all ⟨by omega, by omega⟩ ⟨by omega, by omega⟩ bh_u hx1 hx2).2.2.2.1; omega) (by have := (times_all ⟨by omega, by omega⟩ ⟨by omega, by omega⟩ bh_u hx1 hx2).2.2.2.1; omega)) ?_
      refine wd_yg 17 rfl (by kernel_rfl) rfl rfl rfl (y_mulI rfl rfl (by have := (times_all ⟨by omega, by omega⟩ ⟨by omega, by omega⟩ bh_u hx1 hx2).2.2.2.2.2.2; rcases (show n = 1 ∨ n = 2 ∨ n = 3 ∨ n = 4 ∨ n = 5 ∨ n = 6 by omega) with rfl | rfl | rfl | rfl | rfl | rfl <;> omega)) ?_
      refine wd_yg 18 rfl (by kernel_rfl) rfl rfl rfl (Yl.t (y_eq rfl rfl) ((times_all ⟨by omega, by omega⟩ ⟨by omega, by omega⟩ bh_u hx1 hx2).2.2.2.2.2.1)) ?_
      refine wd_y 19 rfl (by kernel_rfl) rfl (y_pickT rfl rfl) ?_
      refine wd_y 20 rfl (by kernel_rfl) rfl (y_move rfl) ?_
      refine wd_ag 21 rfl (by kernel_rfl) rfl rfl rfl (a_callF en15 rfl (Ct.quiet (fun w hw => known24_ct))) ?_
      rintro _ _ ⟨rfl, rfl⟩
      refine ⟨.inr fun _ h => h, ?_⟩
      refine wd_y 22 rfl (by kernel_rfl) rfl (y_pickT rfl rfl) ?_
      refine wd_y 23 rfl (by kernel_rfl) rfl (y_assign rfl) ?_
      refine wd_nil (by kernel_rfl) ?_
      refine w_retR (R1 := []) (fun _ h => (h.selR (F := [_, _, _, _, _, _, _, _, _, _]) (F' := []) [] (by decide) rfl).left (X := [])) ?_
      refine ⟨_, rfl, ?_⟩
      rfl

end Go.Proofs.YtdfcnalkdlifiaaGreat

