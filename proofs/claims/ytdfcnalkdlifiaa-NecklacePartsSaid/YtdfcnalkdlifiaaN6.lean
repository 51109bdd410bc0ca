/- Walks of Go functions, printed by a program of our own. -/
import Derived.Test.YtdfcnalkdlifiaaN5
namespace Go.Proofs.Ytdfcnalkdlifiaa
open Go Go.Eng Go.Pure
set_option linter.unusedVariables false
/-! whorl/whorlref4.Ints -/
set_option maxRecDepth 100000 in
theorem ints4_ct {w : World} {A_l : Option Addr} {n_l c_l : Nat} {l : List Int} {A_m : Option Addr} {n_m c_m : Nat} {m : List Int} (h_l : Rd w A_l n_l c_l 1 (ints .i64 l)) (h_m : Rd w A_m n_m c_m 1 (ints .i64 m)) (hN : l.length ≤ 1000000) :
    Ct Try.prog 26 #[.slice A_l n_l c_l, .slice A_m n_m c_m] w.heap.size w [] (fun v R' => v = .bool (decide (l = m))) := by
  obtain rfl := h_l.lenI
  obtain rfl := h_m.lenI
  refine fn1 Try.func26 rfl rfl rfl ?_
  have m_l := h_l.max
  have m_m := h_m.max
  refine w_seq ?_
  refine w_reg ?_
  refine wr_y rfl (y_assign rfl) ?_
  refine wr_nil ?_
  refine w_seq ?_
  refine w_seq ?_
  refine w_reg ?_
  refine wr_y rfl (y_move rfl) ?_
  refine wr_y rfl (y_len Try.underlying35 rfl) ?_
  refine wr_y rfl (y_move rfl) ?_
  refine wr_y rfl (y_len Try.underlying35 rfl) ?_
  refine wr_y rfl (y_ne rfl rfl) ?_
  refine wr_nil ?_
  refine w_if rfl (fun hc1 => ?_) (fun hc1 => ?_)
  ·
    refine w_seq ?_
    refine w_reg ?_
    refine wr_y rfl (y_assign rfl) ?_
    refine wr_nil ?_
    refine w_ret ?_
    refine ⟨_, rfl, ?_⟩
    exact congrArg Value.bool (decide_eq_false (fun e => by rw [e] at hc1; exact hc1 rfl)).symm
  ·
    refine w_skip ?_
    refine w_seq ?_
    refine w_seq ?_
    refine w_reg ?_
    refine wr_y rfl (y_assign rfl) ?_
    refine wr_nil ?_
    refine w_block ?_
    refine w_loop1 (fun (k : Int) => [(0, .slice A_l l.length c_l), (1, .slice A_m m.length c_m), (5, .int .i64 k)]) (fun (k : Int) => []) (fun (k : Int) => (0 ≤ k) ∧ (k ≤ l.length) ∧ (l.take k.toNat = m.take k.toNat)) (fun (k : Int) => (l.length - k).toNat) ?_ ?_
    ·
      exact ⟨0, ⟨(by omega), (by omega), (rfl)⟩, (Sub.cons rfl (Sub.cons rfl (Sub.cons rfl Sub.nil))), fun _ h => h⟩
    intro k ⟨hk0, hk1, hq⟩
    refine w_seq ?_
    refine w_seq ?_
    refine w_reg ?_
    refine wr_y rfl (y_move rfl) ?_
    refine wr_y rfl (y_move rfl) ?_
    refine wr_y rfl (y_len Try.underlying35 rfl) ?_
    refine wr_y rfl (y_lt rfl rfl) ?_
    refine wr_nil ?_
    refine w_if rfl (fun hc2 => ?_) (fun hc2 => ?_)
    ·
      refine w_skip ?_
      refine w_seq ?_
      refine w_block ?_
      refine w_seq ?_
      refine w_regd mixed ?_
      refine wd_y 0 rfl (by kernel_rfl) rfl (y_move rfl) ?_
      refine wd_y 1 rfl (by kernel_rfl) rfl (y_move rfl) ?_
      refine wd_y 2 rfl (by kernel_rfl) rfl (y_index1 Try.underlying35 sz3 rfl rfl (h_l.c _) (by omega) (by omega)) ?_
      refine wd_y 3 rfl (by kernel_rfl) rfl (y_ldI Try.underlying3 rfl rfl (h_l.c _) (by omega) (by omega)) ?_
      refine wd_y 4 rfl (by kernel_rfl) rfl (y_move rfl) ?_
      refine wd_y 5 rfl (by kernel_rfl) rfl (y_move rfl) ?_
      refine wd_y 6 rfl (by kernel_rfl) rfl (y_index1 Try.underlying35 sz3 rfl rfl (h_m.c _) (by omega) (by omega)) ?_
      refine wd_y 7 rfl (by kernel_rfl) rfl (y_ldI Try.underlying3 rfl rfl (h_m.c _) (by omega) (by omega)) ?_
      refine wd_y 8 rfl (by kernel_rfl) rfl (y_ne rfl rfl) ?_
      refine wd_nil (by kernel_rfl) ?_
      refine w_if rfl (fun hc3 => ?_) (fun hc3 => ?_)
      ·
        refine w_seq ?_
        refine w_reg ?_
        refine wr_y rfl (y_assign rfl) ?_
        refine wr_nil ?_
        refine w_ret ?_
        refine ⟨_, rfl, ?_⟩
        exact congrArg Value.bool (decide_eq_false (fun e => by subst e; exact hc3 rfl)).symm
      ·
        refine w_skip ?_
        refine w_reg ?_
        refine wr_y rfl (y_move rfl) ?_
        refine wr_y rfl (y_addI rfl rfl (by omega)) ?_
        refine wr_y rfl (y_assign rfl) ?_
        refine wr_nil ?_
        exact ⟨k + 1, ⟨(by omega), (by omega), (by rw [take_rd hk0 (by omega), take_rd hk0 (by omega), hq]; exact congrArg (fun z => List.take k.toNat m ++ [z]) (Decidable.not_not.1 (by assumption)))⟩, (by omega), (Sub.cons rfl (Sub.cons rfl (Sub.cons rfl Sub.nil))), fun _ h => h⟩
    ·
      refine w_exit ?_
      refine w_seq ?_
      refine w_reg ?_
      refine wr_y rfl (y_assign rfl) ?_
      refine wr_nil ?_
      refine w_ret ?_
      refine ⟨_, rfl, ?_⟩
      exact congrArg Value.bool (decide_eq_true (by rw [List.take_of_length_le (by omega), List.take_of_length_le (by omega)] at hq; exact hq)).symm

theorem cw_step {β : Type} (f : List Int → β) {ls : List (List Int)} {i : Int} (h0 : 0 ≤ i) (h1 : i < ls.length) : (ls.take (i + 1).toNat).map f = (ls.take i.toNat).map f ++ [f (rdl ls i)] := by
  rw [take_succ_rdl2 h0 h1, List.map_append]; rfl
theorem canon_w {ws : List (List Int)} {M : Nat} (hb : OkB ws) (h : ∀ w ∈ ws, w.length ≤ M) {c : List Int} (hc : c ∈ canon ws) : ByteL c ∧ 0 < c.length ∧ c.length ≤ M := by
  have h1 := canon_ok hb c hc
  obtain ⟨w, h2, h3, rfl⟩ := mem_canon hc
  rw [lw_len] at *
  exact ⟨h1.1, h3, h w h2⟩
theorem canon_at {ws : List (List Int)} {c : List Int} (hc : c ∈ canon ws) : lrot c = 0 ∧ 0 < c.length := by
  obtain ⟨w, h2, h3, rfl⟩ := mem_canon hc
  exact ⟨lrot_lw w, by rw [lw_len]; exact h3⟩
/-! whorl/whorlref9.Roots -/
set_option maxRecDepth 100000 in
set_option maxHeartbeats 1500000 in
theorem roots9_ct {w : World} {A_ws : Option Addr} {n_ws c_ws : Nat} {vals_ws : List Value} {ws : List (List Int)} (h_ws : Rd w A_ws n_ws c_ws 1 vals_ws) (s_ws : SlW .u8 w vals_ws ws) (hN : (∀ w ∈ ws, w.length ≤ 8000) ∧ ws.length ≤ 100000) :
    Ct Try.prog 24 #[.slice A_ws n_ws c_ws] w.heap.size w [] (fun v R' => ∃ (A : Option Addr) (c : Nat) (A2 : Option Addr) (c2 : Nat) (vals : List Value) (Rs : List Row), v = .tuple #[.slice A vals.length c, .slice A2 ((ringS ws).map Prod.snd).length c2] ∧ SlR .u8 Rs vals ((ringS ws).map Prod.fst) ∧ R' = ⟨22, 1, A, vals.length, c, vals, false⟩ :: ⟨3, 1, A2, ((ringS ws).map Prod.snd).length, c2, ints .i64 ((ringS ws).map Prod.snd), false⟩ :: Rs) := by
  obtain rfl : n_ws = ws.length := by have := h_ws.len; have := s_ws.1; omega
  refine fn2 Try.func24 rfl rfl rfl ?_
  have m_ws := h_ws.max
  have hob := s_ws.okB
  refine w_seq ?_
  refine w_reg ?_
  refine wr_y rfl (y_assign rfl) ?_
  refine wr_y rfl (y_assign rfl) ?_
  refine wr_nil ?_
  refine w_seq ?_
  refine w_reg ?_
  refine wr_y rfl (y_move rfl) ?_
  refine wr_a rfl (a_callF en25 rfl (Ct.fresh (fun w hw => canon9_ct ((h_ws.c _) w hw) (s_ws.c hw) (by first | assumption | omega | decide)))) ?_
  rintro _ _ ⟨_, rfl, A_1, c_2, vals_3, Rs_4, rfl, hsl_5, rfl⟩
  have hn_hsl_5 := hsl_5.1
  refine wr_sub (R1 := (⟨22, 1, A_1, vals_3.length, c_2, vals_3, false⟩ :: Rs_4)) (Sub.refl _) (fun _ h => Hp.toTail0 (X := [_]) (Y := []) h) ?_
  refine wr_y rfl (y_assign rfl) ?_
  refine wr_nil ?_
  refine w_seq ?_
  refine w_reg ?_
  refine wr_sub (R1 := (⟨22, 1, none, 0, 0, [], false⟩ :: ⟨22, 1, A_1, vals_3.length, c_2, vals_3, false⟩ :: Rs_4)) (Sub.refl _) (fun _ h => h.nil 22 1) ?_
  refine wr_y rfl (y_assign rfl) ?_
  refine wr_nil ?_
  refine w_seq ?_
  refine w_reg ?_
  refine wr_sub (R1 := (⟨3, 1, none, 0, 0, ints .i64 ([]), false⟩ :: ⟨22, 1, none, 0, 0, [], false⟩ :: ⟨22, 1, A_1, vals_3.length, c_2, vals_3, false⟩ :: Rs_4)) (Sub.refl _) (fun _ h => h.nil 3 1) ?_
  refine wr_y rfl (y_assign rfl) ?_
  refine wr_nil ?_
  refine w_seq ?_
  refine w_seq ?_
  refine w_reg ?_
  refine wr_y rfl (y_assign rfl) ?_
  refine wr_nil ?_
  refine w_block ?_
  refine w_loop10 (fun (i : Int) (A1 : Option Addr) (n1 : Nat) (c1 : Nat) (vals : List Value) (ls : List (List Int)) (A2 : Option Addr) (n2 : Nat) (c2 : Nat) (ts : List Int) => [(4, .slice A_1 vals_3.length c_2), (5, .slice A1 n1 c1), (6, .slice A2 n2 c2), (7, .int .i64 i)]) (fun (i : Int) (A1 : Option Addr) (n1 : Nat) (c1 : Nat) (vals : List Value) (ls : List (List Int)) (A2 : Option Addr) (n2 : Nat) (c2 : Nat) (ts : List Int) => (⟨3, 1, A2, n2, c2, ints .i64 ts, false⟩ :: ⟨22, 1, A1, n1, c1, vals, false⟩ :: ⟨22, 1, A_1, vals_3.length, c_2, vals_3, false⟩ :: Rs_4)) (fun (i : Int) (A1 : Option Addr) (n1 : Nat) (c1 : Nat) (vals : List Value) (ls : List (List Int)) (A2 : Option Addr) (n2 : Nat) (c2 : Nat) (ts : List Int) => (0 ≤ i) ∧ (i ≤ (canon ws).length) ∧ (n1 = vals.length) ∧ (n2 = ts.length) ∧ (SlR .u8 Rs_4 vals ls) ∧ (ls = ((canon ws).take i.toNat).map rootW) ∧ (ts = ((canon ws).take i.toNat).map timesW)) (fun (i : Int) (A1 : Option Addr) (n1 : Nat) (c1 : Nat) (vals : List Value) (ls : List (List Int)) (A2 : Option Addr) (n2 : Nat) (c2 : Nat) (ts : List Int) => ((canon ws).length - i).toNat) ?_ ?_
  ·
    exact ⟨0, none, 0, 0, [], [], none, 0, 0, [], ⟨(by omega), (by omega), (rfl), (rfl), (SlR.nilR _ _), (rfl), (rfl)⟩, (Sub.cons rfl (Sub.cons rfl (Sub.cons rfl (Sub.cons rfl Sub.nil)))), fun _ h => h⟩
  intro i A1 n1 c1 vals ls A2 n2 c2 ts ⟨hi0, hi1, hn1, hn2, hsl, hls, hts⟩
  have hll := congrArg List.length hls
  rw [List.length_map, List.length_take] at hll
  have hlt := congrArg List.length hts
  rw [List.length_map, List.length_take] at hlt
  have hsn := hsl.1
  have hfew := canon_few ws
  have hcw : 0 ≤ i → i < (canon ws).length → ByteL (rdl (canon ws) i) ∧ 0 < (rdl (canon ws) i).length ∧ (rdl (canon ws) i).length ≤ 8000 := fun h h' => canon_w hob hN.1 (rdl_mem2 h h')
  refine w_seq ?_
  refine w_seq ?_
  refine w_reg ?_
  refine wr_y rfl (y_move rfl) ?_
  refine wr_y rfl (y_move rfl) ?_
  refine wr_y rfl (y_len Try.underlying30 rfl) ?_
  refine wr_y rfl (y_lt rfl rfl) ?_
  refine wr_nil ?_
  refine w_if rfl (fun hc1 => ?_) (fun hc1 => ?_)
  ·
    have hcw2 := hcw hi0 (by omega)
    refine w_skip ?_
    refine w_seq ?_
    refine w_block ?_
    refine w_seq ?_
    refine w_reg ?_
    refine wr_y rfl (y_move rfl) ?_
    refine wr_y rfl (y_move rfl) ?_
    refine wr_y rfl (y_index1 Try.underlying30 sz22 rfl rfl (rdr 2 rfl) (by omega) (by omega)) ?_
    obtain ⟨A_7, c_8, hv_9, hr_10⟩ := hsl_5.at (i := i) (by omega) (by omega)
    refine wr_y rfl (y_ld Try.underlying22 rfl rfl rfl (rdr 2 rfl) hv_9) ?_
    refine wr_a rfl (a_callF en43 rfl (Ct.quiet (fun w hw => root5_ct ((fun _ h => hr_10 _ _ _ (h.right (R' := [_, _, _]))) w hw) hcw2.1 hcw2.2.1 (by omega)))) ?_
    rintro _ _ ⟨rfl, rfl⟩
    have hr10 := rl_range (u := (rdl (canon ws) i)) (by omega)
    refine wr_y rfl (y_move rfl) ?_
    refine wr_y rfl (y_extract rfl rfl) ?_
    refine wr_y rfl (y_extract rfl rfl) ?_
    refine wr_y rfl (y_assign rfl) ?_
    refine wr_y rfl (y_assign rfl) ?_
    refine wr_nil ?_
    refine w_reg ?_
    refine wr_y rfl (y_move rfl) ?_
    refine wr_y rfl (y_move rfl) ?_
    refine wr_a rfl (a_lit [Value.slice A_7 ((rl (rdl (canon ws) i)).toNat) c_8] Try.underlying30 zs22 rfl rfl rfl rfl) ?_
    rintro _ _ ⟨g_12, rfl, rfl⟩
    refine wr_a rfl (a_append 2 rfl rfl Try.underlying30 zb22 rfl rfl rfl rfl rfl (rdr 0 rfl) (by simp [Value.oneCell']) (by dsimp only; omega)) ?_
    rintro _ _ ⟨A_13, c_14, rfl, rfl⟩
    refine wr_rows (R1 := (⟨22, 1, (some ⟨g_12, 0, none⟩), 1, 1, [Value.slice A_7 ((rl (rdl (canon ws) i)).toNat) c_8], false⟩ :: ⟨3, 1, A2, n2, c2, ints .i64 ts, false⟩ :: ⟨22, 1, A_13, (n1 + 1), c_14, vals ++ ([Value.slice A_7 ((rl (rdl (canon ws) i)).toNat) c_8]), false⟩ :: ⟨22, 1, A_1, vals_3.length, c_2, vals_3, false⟩ :: Rs_4)) rfl ?_
    refine wr_as (v := .slice A_13 (n1 + 1) c_14) rfl ?_
    refine wr_y rfl (y_move rfl) ?_
    refine wr_y rfl (y_move rfl) ?_
    refine wr_a rfl (a_litI .i64 [(((rdl (canon ws) i)).length : Int) / rl (rdl (canon ws) i)] Try.underlying35 zs3 rfl rfl rfl) ?_
    rintro _ _ ⟨g_16, rfl, rfl⟩
    refine wr_a rfl (a_appendI 2 rfl Try.underlying35 zb3 rfl rfl rfl (rdr 0 rfl) (by omega)) ?_
    rintro _ _ ⟨A_17, c_18, rfl, rfl⟩
    refine wr_rows (R1 := (⟨3, 1, (some ⟨g_16, 0, none⟩), 1, 1, ints .i64 ([(((rdl (canon ws) i)).length : Int) / rl (rdl (canon ws) i)]), false⟩ :: ⟨22, 1, (some ⟨g_12, 0, none⟩), 1, 1, [Value.slice A_7 ((rl (rdl (canon ws) i)).toNat) c_8], false⟩ :: ⟨3, 1, A_17, (n2 + 1), c_18, ints .i64 (ts ++ ([(((rdl (canon ws) i)).length : Int) / rl (rdl (canon ws) i)])), false⟩ :: ⟨22, 1, A_13, (n1 + 1), c_14, vals ++ ([Value.slice A_7 ((rl (rdl (canon ws) i)).toNat) c_8]), false⟩ :: ⟨22, 1, A_1, vals_3.length, c_2, vals_3, false⟩ :: Rs_4)) rfl ?_
    refine wr_as (v := .slice A_17 (n2 + 1) c_18) rfl ?_
    refine wr_y rfl (y_assign rfl) ?_
    refine wr_y rfl (y_assign rfl) ?_
    refine wr_nil ?_
    refine w_reg ?_
    refine wr_y rfl (y_move rfl) ?_
    refine wr_y rfl (y_addI rfl rfl (by omega)) ?_
    refine wr_y rfl (y_assign rfl) ?_
    refine wr_nil ?_
    exact ⟨i + 1, A_13, n1 + 1, c_14, vals ++ ([Value.slice A_7 ((rl (rdl (canon ws) i)).toNat) c_8]), (ls ++ [(rdl (canon ws) i).take (rl (rdl (canon ws) i)).toNat]), A_17, n2 + 1, c_18, ts ++ ([(((rdl (canon ws) i)).length : Int) / rl (rdl (canon ws) i)]), ⟨(by omega), (by omega), (by rw [List.length_append, hn1]; rfl), (by rw [List.length_append, hn2]; rfl), (hsl.push (by rw [List.length_take]; omega) (fun B w0 => RdC.toI (hr_10 B w0) (by omega))), (by rw [cw_step rootW hi0 (by omega), ← hls]; rfl), (by rw [cw_step timesW hi0 (by omega), ← hts]; rfl)⟩, (by omega), (Sub.cons rfl (Sub.cons rfl (Sub.cons rfl (Sub.cons rfl Sub.nil)))), fun _ h => h.selR (F := [_, _, _, _, _]) (F' := [_, _, _]) [2, 3, 4] (by decide) rfl⟩
  ·
    refine w_exit ?_
    refine w_seq ?_
    refine w_reg ?_
    refine wr_y rfl (y_move rfl) ?_
    refine wr_y rfl (y_move rfl) ?_
    refine wr_y rfl (y_assign rfl) ?_
    refine wr_y rfl (y_assign rfl) ?_
    refine wr_nil ?_
    refine w_retR (R1 := (⟨22, 1, A1, n1, c1, vals, false⟩ :: ⟨3, 1, A2, n2, c2, ints .i64 ts, false⟩ :: Rs_4)) (fun _ h => h.selR (F := [_, _, _]) (F' := [_, _]) [1, 0] (by decide) rfl) ?_
    refine ⟨_, _, rfl, rfl, ?_⟩
    have hrd := roots_canon ws
    rw [List.take_of_length_le (by omega)] at hls hts
    obtain rfl : ls = (ringS ws).map Prod.fst := hls.trans hrd.1
    obtain rfl : ts = (ringS ws).map Prod.snd := hts.trans hrd.2
    subst hn1; subst hn2
    exact ⟨_, _, _, _, vals, _, rfl, hsl, rfl⟩

abbrev longP (M : Nat) (ws : List (List Int)) : Prop := M < (ws.take 40).flatten.length ∨ 30 < ws.length
theorem long_no {M : Nat} {ws : List (List Int)} (h : ¬ longP M ws) : ws.length ≤ 30 ∧ ws.flatten.length ≤ M ∧ ∀ w ∈ ws, w.length ≤ M := by
  unfold longP at h
  have h1 : ws.length ≤ 30 := by omega
  have h2 : ws.flatten.length ≤ M := by
    rw [List.take_of_length_le (by omega)] at h
    omega
  exact ⟨h1, h2, fun w hw => Nat.le_trans (List.Sublist.length_le (List.sublist_flatten_of_mem hw)) h2⟩
theorem long_take {ws : List (List Int)} {i : Int} (h0 : 0 ≤ i) (h1 : i ≤ ws.length) (h2 : i ≤ 40) (h : ¬ (i < ws.length ∧ i < 40)) : ws.take i.toNat = ws.take 40 := by
  rcases Int.lt_or_le i 40 with g | g
  · rw [List.take_of_length_le (by omega), List.take_of_length_le (by omega)]
  · rw [show i.toNat = 40 by omega]
/-! whorl/whorllaw9.long -/
set_option maxRecDepth 100000 in
set_option maxHeartbeats 600000 in
theorem long9_ct {w : World} {A_ws : Option Addr} {n_ws c_ws : Nat} {vals_ws : List Value} {ws : List (List Int)} (h_ws : Rd w A_ws n_ws c_ws 1 vals_ws) (s_ws : SlW .u8 w vals_ws ws) :
    Ct Try.prog 18 #[.slice A_ws n_ws c_ws] w.heap.size w [] (fun v R' => v = .bool (decide (longP 150 ws))) := by
  obtain rfl : n_ws = ws.length := by have := h_ws.len; have := s_ws.1; omega
  refine fn1 Try.func18 rfl rfl rfl ?_
  have m_ws := h_ws.max
  refine w_seq ?_
  refine w_reg ?_
  refine wr_y rfl (y_assign rfl) ?_
  refine wr_nil ?_
  refine w_seq ?_
  refine w_reg ?_
  refine wr_y rfl (y_assign rfl) ?_
  refine wr_nil ?_
  refine w_seq ?_
  refine w_seq ?_
  refine w_reg ?_
  refine wr_y rfl (y_assign rfl) ?_
  refine wr_nil ?_
  refine w_block ?_
  refine w_loop2 (fun (i : Int) (z : Int) => [(0, .slice A_ws ws.length c_ws), (3, .int .i64 z), (4, .int .i64 i)]) (fun (i : Int) (z : Int) => []) (fun (i : Int) (z : Int) => (0 ≤ i) ∧ (i ≤ ws.length) ∧ (i ≤ 40) ∧ (z = ((ws.take i.toNat).flatten.length : Int)) ∧ (0 ≤ z ∧ z ≤ i * 140737488355327)) (fun (i : Int) (z : Int) => (ws.length - i).toNat) ?_ ?_
  ·
    exact ⟨0, 0, ⟨(by omega), (by omega), (by omega), (rfl), (by omega)⟩, (Sub.cons rfl (Sub.cons rfl (Sub.cons rfl Sub.nil))), fun _ h => h⟩
  intro i z ⟨hi0, hi1, hi2, hz, hz2⟩
  refine w_seq ?_
  refine w_seq ?_
  refine w_reg ?_
  refine wr_y rfl (y_move rfl) ?_
  refine wr_y rfl (y_move rfl) ?_
  refine wr_y rfl (y_len Try.underlying30 rfl) ?_
  refine wr_y rfl (y_lt rfl rfl) ?_
  refine wr_y rfl (y_move rfl) ?_
  refine wr_mid 3 [(0, .slice A_ws ws.length c_ws), (3, .int .i64 z), (4, .int .i64 i), (12, .bool (decide ((i < ((ws.length : Nat) : Int)) ∧ (i < 40))))] [] ?_ ?_
  ·
    refine wr_case 9 rfl (fun hc1 => ?_) (fun hc1 => ?_)
    ·
      refine wr_yes rfl rfl ?_
      refine wr_y rfl (y_move rfl) ?_
      refine wr_yes rfl rfl ?_
      refine wr_y rfl (y_lt rfl rfl) ?_
      refine wr_y rfl (y_pickT rfl rfl) ?_
      refine wr_nil ?_
      exact ⟨(Sub.cons rfl (Sub.cons rfl (Sub.cons rfl (Sub.to rfl (mb (by first | omega | exact ⟨fun h => ⟨(by assumption), h⟩, fun h => h.2⟩ | simp [*])) Sub.nil)))), fun _ h => h⟩
    ·
      refine wr_no rfl rfl rfl rfl ?_
      refine wr_no rfl rfl rfl rfl ?_
      refine wr_y rfl (y_pickF rfl rfl) ?_
      refine wr_nil ?_
      exact ⟨(Sub.cons rfl (Sub.cons rfl (Sub.cons rfl (Sub.to rfl (mb_f (by first | omega | exact ⟨fun h => ⟨(by assumption), h⟩, fun h => h.2⟩ | simp [*])) Sub.nil)))), fun _ h => h⟩
  refine wr_nil ?_
  refine w_if rfl (fun hc2 => ?_) (fun hc2 => ?_)
  ·
    refine w_skip ?_
    refine w_seq ?_
    refine w_block ?_
    refine w_reg ?_
    refine wr_y rfl (y_move rfl) ?_
    refine wr_y rfl (y_move rfl) ?_
    refine wr_y rfl (y_move rfl) ?_
    refine wr_y rfl (y_index1 Try.underlying30 sz22 rfl rfl (h_ws.c _) (by omega) (by omega)) ?_
    refine s_ws.elim (i := i) (by omega) (by omega) (fun A_1 c_2 hv_3 hr_4 hb_5 mhr_4 => ?_)
    refine wr_y rfl (y_ld Try.underlying22 rfl rfl rfl (h_ws.c _) hv_3) ?_
    refine wr_y rfl (y_len Try.underlying22 rfl) ?_
    refine wr_y rfl (y_addI rfl rfl (by omega)) ?_
    refine wr_y rfl (y_assign rfl) ?_
    refine wr_nil ?_
    refine w_reg ?_
    refine wr_y rfl (y_move rfl) ?_
    refine wr_y rfl (y_addI rfl rfl (by omega)) ?_
    refine wr_y rfl (y_assign rfl) ?_
    refine wr_nil ?_
    exact ⟨i + 1, z + (((rdl ws i).length : Nat) : Int), ⟨(by omega), (by omega), (by omega), (by rw [flat_take_succ hi0 (by omega), List.length_append, hz]; omega), (by omega)⟩, (by omega), (Sub.cons rfl (Sub.cons rfl (Sub.cons rfl Sub.nil))), fun _ h => h⟩
  ·
    refine w_exit ?_
    refine w_seq ?_
    refine w_reg ?_
    refine wr_y rfl (y_move rfl) ?_
    refine wr_y rfl (y_gt rfl rfl) ?_
    refine wr_y rfl (y_move rfl) ?_
    refine wr_mid 4 [(28, .bool (decide ((150 < z) ∨ (30 < ((ws.length : Nat) : Int)))))] [] ?_ ?_
    ·
      refine wr_case 24 rfl (fun hc3 => ?_) (fun hc3 => ?_)
      ·
        refine wr_no rfl rfl rfl rfl ?_
        refine wr_no rfl rfl rfl rfl ?_
        refine wr_no rfl rfl rfl rfl ?_
        refine wr_y rfl (y_pickT rfl rfl) ?_
        refine wr_nil ?_
        exact ⟨(Sub.to rfl (mb_t (by first | omega | exact ⟨fun h => ⟨(by assumption), h⟩, fun h => h.2⟩ | simp [*])) Sub.nil), fun _ h => h⟩
      ·
        refine wr_yes rfl rfl ?_
        refine wr_y rfl (y_move rfl) ?_
        refine wr_yes rfl rfl ?_
        refine wr_y rfl (y_len Try.underlying30 rfl) ?_
        refine wr_yes rfl rfl ?_
        refine wr_y rfl (y_gt rfl rfl) ?_
        refine wr_y rfl (y_pickF rfl rfl) ?_
        refine wr_nil ?_
        exact ⟨(Sub.to rfl (mb (by first | omega | exact ⟨fun h => ⟨(by assumption), h⟩, fun h => h.2⟩ | simp [*])) Sub.nil), fun _ h => h⟩
    refine wr_y rfl (y_assign rfl) ?_
    refine wr_nil ?_
    refine w_ret ?_
    refine ⟨_, rfl, ?_⟩
    have e := long_take hi0 hi1 hi2 (by assumption)
    rw [e] at hz
    exact congrArg Value.bool (decide_eq_decide.2 (by unfold longP; omega))

theorem known_canon : canon [[98, 97], [97, 98, 97, 98], [97]] = [[97], [97, 98], [97, 98, 97, 98]] := by
  have h : [([97], 1), ([97, 98], 1), ([97, 98], 2)] = ringS [[98, 97], [97, 98, 97, 98], [97]] := ringS_one (show List.Perm _ [([97, 98], 1), ([97, 98], 2), ([97], 1)] by decide) (by decide)
  unfold canon
  rw [← h]
  decide
/-! whorl/whorllaw9.known -/
set_option maxRecDepth 100000 in
set_option maxHeartbeats 800000 in
theorem known9_ct {w : World}  :
    Ct Try.prog 22 #[] w.heap.size w [] (fun v R' => v = .bool true) := by
  refine fn1 Try.func22 rfl rfl rfl ?_
  refine w_seq ?_
  refine w_reg ?_
  refine wr_y rfl (y_assign rfl) ?_
  refine wr_nil ?_
  refine w_seq ?_
  refine w_reg ?_
  refine wr_a rfl (a_litI .u8 [98, 97] Try.underlying22 zs5 rfl rfl rfl) ?_
  rintro _ _ ⟨g_2, rfl, rfl⟩
  refine wr_a rfl (a_mark 0 rfl rfl Try.underlying22 Try.underlying5 rfl rfl) ?_
  rintro _ _ ⟨rfl, rfl⟩
  refine wr_rows (R1 := (⟨5, 1, (some ⟨g_2, 0, none⟩), 2, 2, ints .u8 ([98, 97]), true⟩ :: [])) rfl ?_
  refine wr_a rfl (a_litI .u8 [97, 98, 97, 98] Try.underlying22 zs5 rfl rfl rfl) ?_
  rintro _ _ ⟨g_4, rfl, rfl⟩
  refine wr_a rfl (a_mark 0 rfl rfl Try.underlying22 Try.underlying5 rfl rfl) ?_
  rintro _ _ ⟨rfl, rfl⟩
  refine wr_rows (R1 := (⟨5, 1, (some ⟨g_4, 0, none⟩), 4, 4, ints .u8 ([97, 98, 97, 98]), true⟩ :: ⟨5, 1, (some ⟨g_2, 0, none⟩), 2, 2, ints .u8 ([98, 97]), true⟩ :: [])) rfl ?_
  refine wr_a rfl (a_litI .u8 [97] Try.underlying22 zs5 rfl rfl rfl) ?_
  rintro _ _ ⟨g_6, rfl, rfl⟩
  refine wr_a rfl (a_mark 0 rfl rfl Try.underlying22 Try.underlying5 rfl rfl) ?_
  rintro _ _ ⟨rfl, rfl⟩
  refine wr_rows (R1 := (⟨5, 1, (some ⟨g_6, 0, none⟩), 1, 1, ints .u8 ([97]), true⟩ :: ⟨5, 1, (some ⟨g_4, 0, none⟩), 4, 4, ints .u8 ([97, 98, 97, 98]), true⟩ :: ⟨5, 1, (some ⟨g_2, 0, none⟩), 2, 2, ints .u8 ([98, 97]), true⟩ :: [])) rfl ?_
  refine wr_a rfl (a_lit [Value.slice (some ⟨g_2, 0, none⟩) 2 2, Value.slice (some ⟨g_4, 0, none⟩) 4 4, Value.slice (some ⟨g_6, 0, none⟩) 1 1] Try.underlying30 zs22 rfl rfl rfl rfl) ?_
  rintro _ _ ⟨g_8, rfl, rfl⟩
  refine wr_y rfl (y_assign rfl) ?_
  refine wr_nil ?_
  refine w_seq ?_
  refine w_reg ?_
  refine wr_y rfl (y_move rfl) ?_
  refine wr_a rfl (a_callF en19 rfl (Ct.fresh (fun w hw => canonN_ct ((rdr 0 rfl) w hw) ((((slw_none _ _).snoc ((rdr 3 rfl) w hw) (fun x hx => wf_byte ((by unfold ByteL; decide : ByteL ([98, 97])) x hx)) (by decide)).snoc ((rdr 2 rfl) w hw) (fun x hx => wf_byte ((by unfold ByteL; decide : ByteL ([97, 98, 97, 98])) x hx)) (by decide)).snoc ((rdr 1 rfl) w hw) (fun x hx => wf_byte ((by unfold ByteL; decide : ByteL ([97])) x hx)) (by decide)) (by decide)))) ?_
  rintro _ _ ⟨_, rfl, A_9, c_10, vals_11, Rs_12, rfl, hsl_13, rfl⟩
  have hn_hsl_13 := hsl_13.1
  refine wr_sub (R1 := (⟨22, 1, A_9, vals_11.length, c_10, vals_11, false⟩ :: ⟨22, 1, (some ⟨g_8, 0, none⟩), 3, 3, [Value.slice (some ⟨g_2, 0, none⟩) 2 2, Value.slice (some ⟨g_4, 0, none⟩) 4 4, Value.slice (some ⟨g_6, 0, none⟩) 1 1], false⟩ :: ⟨5, 1, (some ⟨g_6, 0, none⟩), 1, 1, ints .u8 ([97]), true⟩ :: ⟨5, 1, (some ⟨g_4, 0, none⟩), 4, 4, ints .u8 ([97, 98, 97, 98]), true⟩ :: ⟨5, 1, (some ⟨g_2, 0, none⟩), 2, 2, ints .u8 ([98, 97]), true⟩ :: Rs_12)) (Sub.refl _) (fun _ h => Hp.toTail0 (X := [_]) (Y := [_, _, _, _]) h) ?_
  refine wr_a rfl (a_litI .u8 [97] Try.underlying22 zs5 rfl rfl rfl) ?_
  rintro _ _ ⟨g_16, rfl, rfl⟩
  refine wr_a rfl (a_mark 0 rfl rfl Try.underlying22 Try.underlying5 rfl rfl) ?_
  rintro _ _ ⟨rfl, rfl⟩
  refine wr_rows (R1 := (⟨5, 1, (some ⟨g_16, 0, none⟩), 1, 1, ints .u8 ([97]), true⟩ :: ⟨22, 1, A_9, vals_11.length, c_10, vals_11, false⟩ :: ⟨22, 1, (some ⟨g_8, 0, none⟩), 3, 3, [Value.slice (some ⟨g_2, 0, none⟩) 2 2, Value.slice (some ⟨g_4, 0, none⟩) 4 4, Value.slice (some ⟨g_6, 0, none⟩) 1 1], false⟩ :: ⟨5, 1, (some ⟨g_6, 0, none⟩), 1, 1, ints .u8 ([97]), true⟩ :: ⟨5, 1, (some ⟨g_4, 0, none⟩), 4, 4, ints .u8 ([97, 98, 97, 98]), true⟩ :: ⟨5, 1, (some ⟨g_2, 0, none⟩), 2, 2, ints .u8 ([98, 97]), true⟩ :: Rs_12)) rfl ?_
  refine wr_a rfl (a_litI .u8 [97, 98] Try.underlying22 zs5 rfl rfl rfl) ?_
  rintro _ _ ⟨g_18, rfl, rfl⟩
  refine wr_a rfl (a_mark 0 rfl rfl Try.underlying22 Try.underlying5 rfl rfl) ?_
  rintro _ _ ⟨rfl, rfl⟩
  refine wr_rows (R1 := (⟨5, 1, (some ⟨g_18, 0, none⟩), 2, 2, ints .u8 ([97, 98]), true⟩ :: ⟨5, 1, (some ⟨g_16, 0, none⟩), 1, 1, ints .u8 ([97]), true⟩ :: ⟨22, 1, A_9, vals_11.length, c_10, vals_11, false⟩ :: ⟨22, 1, (some ⟨g_8, 0, none⟩), 3, 3, [Value.slice (some ⟨g_2, 0, none⟩) 2 2, Value.slice (some ⟨g_4, 0, none⟩) 4 4, Value.slice (some ⟨g_6, 0, none⟩) 1 1], false⟩ :: ⟨5, 1, (some ⟨g_6, 0, none⟩), 1, 1, ints .u8 ([97]), true⟩ :: ⟨5, 1, (some ⟨g_4, 0, none⟩), 4, 4, ints .u8 ([97, 98, 97, 98]), true⟩ :: ⟨5, 1, (some ⟨g_2, 0, none⟩), 2, 2, ints .u8 ([98, 97]), true⟩ :: Rs_12)) rfl ?_
  refine wr_a rfl (a_litI .u8 [97, 98, 97, 98] Try.underlying22 zs5 rfl rfl rfl) ?_
  rintro _ _ ⟨g_20, rfl, rfl⟩
  refine wr_a rfl (a_mark 0 rfl rfl Try.underlying22 Try.underlying5 rfl rfl) ?_
  rintro _ _ ⟨rfl, rfl⟩
  refine wr_rows (R1 := (⟨5, 1, (some ⟨g_20, 0, none⟩), 4, 4, ints .u8 ([97, 98, 97, 98]), true⟩ :: ⟨5, 1, (some ⟨g_18, 0, none⟩), 2, 2, ints .u8 ([97, 98]), true⟩ :: ⟨5, 1, (some ⟨g_16, 0, none⟩), 1, 1, ints .u8 ([97]), true⟩ :: ⟨22, 1, A_9, vals_11.length, c_10, vals_11, false⟩ :: ⟨22, 1, (some ⟨g_8, 0, none⟩), 3, 3, [Value.slice (some ⟨g_2, 0, none⟩) 2 2, Value.slice (some ⟨g_4, 0, none⟩) 4 4, Value.slice (some ⟨g_6, 0, none⟩) 1 1], false⟩ :: ⟨5, 1, (some ⟨g_6, 0, none⟩), 1, 1, ints .u8 ([97]), true⟩ :: ⟨5, 1, (some ⟨g_4, 0, none⟩), 4, 4, ints .u8 ([97, 98, 97, 98]), true⟩ :: ⟨5, 1, (some ⟨g_2, 0, none⟩), 2, 2, ints .u8 ([98, 97]), true⟩ :: Rs_12)) rfl ?_
  refine wr_a rfl (a_lit [Value.slice (some ⟨g_16, 0, none⟩) 1 1, Value.slice (some ⟨g_18, 0, none⟩) 2 2, Value.slice (some ⟨g_20, 0, none⟩) 4 4] Try.underlying30 zs22 rfl rfl rfl rfl) ?_
  rintro _ _ ⟨g_22, rfl, rfl⟩
  refine wr_a rfl (a_callF en21 rfl (Ct.quiet (fun w hw => rows9_ct ((rdr 4 rfl) w hw) (hsl_13.slw (canon_ok (by unfold OkB ByteL; decide)) (Hp.right (R' := [_, _, _, _, _, _, _, _, _]) hw)) ((rdr 0 rfl) w hw) ((((slw_none _ _).snoc ((rdr 3 rfl) w hw) (fun x hx => wf_byte ((by unfold ByteL; decide : ByteL ([97])) x hx)) (by decide)).snoc ((rdr 2 rfl) w hw) (fun x hx => wf_byte ((by unfold ByteL; decide : ByteL ([97, 98])) x hx)) (by decide)).snoc ((rdr 1 rfl) w hw) (fun x hx => wf_byte ((by unfold ByteL; decide : ByteL ([97, 98, 97, 98])) x hx)) (by decide)) (Nat.le_trans (canon_few _) (by decide))))) ?_
  rintro _ _ ⟨rfl, rfl⟩
  refine wr_setT 18 rfl (known_canon) ?_
  refine wr_y rfl (y_assign rfl) ?_
  refine wr_nil ?_
  refine w_retR (R1 := []) (fun _ h => (h.selR (F := [_, _, _, _, _, _, _, _, _]) (F' := []) [] (by decide) rfl).left (X := [])) ?_
  refine ⟨_, rfl, ?_⟩
  rfl

/-! whorl/whorllaw9.NecklaceTwice -/
set_option maxRecDepth 100000 in
set_option maxHeartbeats 1000000 in
theorem necklaceTwice_ct {w : World} {A_ws : Option Addr} {n_ws c_ws : Nat} {vals_ws : List Value} {ws : List (List Int)} (h_ws : Rd w A_ws n_ws c_ws 1 vals_ws) (s_ws : SlW .u8 w vals_ws ws) :
    Ct Try.prog 5 #[.slice A_ws n_ws c_ws] w.heap.size w [] (fun v R' => v = .bool true) := by
  obtain rfl : n_ws = ws.length := by have := h_ws.len; have := s_ws.1; omega
  refine fn1 Try.func5 rfl rfl rfl ?_
  have m_ws := h_ws.max
  refine w_seq ?_
  refine w_reg ?_
  refine wr_y rfl (y_assign rfl) ?_
  refine wr_nil ?_
  refine w_seq ?_
  refine w_seq ?_
  refine w_reg ?_
  refine wr_y rfl (y_move rfl) ?_
  refine wr_a rfl (a_callF en18 rfl (Ct.quiet (fun w hw => long9_ct ((h_ws.c _) w hw) (s_ws.c hw)))) ?_
  rintro _ _ ⟨rfl, rfl⟩
  refine wr_nil ?_
  refine w_if rfl (fun hc1 => ?_) (fun hc1 => ?_)
  ·
    refine w_seq ?_
    refine w_reg ?_
    refine wr_y rfl (y_assign rfl) ?_
    refine wr_nil ?_
    refine w_retR (R1 := []) (fun _ h => (h.selR (F := []) (F' := []) [] (by decide) rfl).left (X := [])) ?_
    refine ⟨_, rfl, ?_⟩
    rfl
  ·
    have hlg := long_no hc1
    have hNN : (∀ w ∈ ws, w.length ≤ 8000) ∧ ws.length ≤ 100000 := ⟨fun w hw => Nat.le_trans (hlg.2.2 w hw) (by decide), by omega⟩
    have hfew := canon_few ws
    have hob := s_ws.okB
    refine w_skip ?_
    refine w_seq ?_
    refine w_reg ?_
    refine wr_y rfl (y_move rfl) ?_
    refine wr_a rfl (a_callF en19 rfl (Ct.fresh (fun w hw => canonN_ct ((h_ws.c _) w hw) (s_ws.c hw) hNN))) ?_
    rintro _ _ ⟨_, rfl, A_1, c_2, vals_3, Rs_4, rfl, hsl_5, rfl⟩
    have hn_hsl_5 := hsl_5.1
    refine wr_sub (R1 := (⟨22, 1, A_1, vals_3.length, c_2, vals_3, false⟩ :: Rs_4)) (Sub.refl _) (fun _ h => Hp.toTail0 (X := [_]) (Y := []) h) ?_
    refine wr_y rfl (y_assign rfl) ?_
    refine wr_nil ?_
    refine w_seq ?_
    refine w_seq ?_
    refine w_reg ?_
    refine wr_y rfl (y_assign rfl) ?_
    refine wr_nil ?_
    refine w_block ?_
    refine w_loop1 (fun (i : Int) => [(3, .slice A_1 vals_3.length c_2), (4, .int .i64 i)]) (fun (i : Int) => (⟨22, 1, A_1, vals_3.length, c_2, vals_3, false⟩ :: Rs_4)) (fun (i : Int) => (0 ≤ i) ∧ (i ≤ (canon ws).length)) (fun (i : Int) => ((canon ws).length - i).toNat) ?_ ?_
    ·
      exact ⟨0, ⟨(by omega), (by omega)⟩, (Sub.cons rfl (Sub.cons rfl Sub.nil)), fun _ h => h⟩
    intro i ⟨hi0, hi1⟩
    refine w_seq ?_
    refine w_seq ?_
    refine w_reg ?_
    refine wr_y rfl (y_move rfl) ?_
    refine wr_y rfl (y_move rfl) ?_
    refine wr_y rfl (y_len Try.underlying30 rfl) ?_
    refine wr_y rfl (y_lt rfl rfl) ?_
    refine wr_nil ?_
    refine w_if rfl (fun hc2 => ?_) (fun hc2 => ?_)
    ·
      refine w_skip ?_
      refine w_seq ?_
      refine w_block ?_
      refine w_seq ?_
      refine w_reg ?_
      refine wr_y rfl (y_move rfl) ?_
      refine wr_y rfl (y_move rfl) ?_
      refine wr_y rfl (y_index1 Try.underlying30 sz22 rfl rfl (rdr 0 rfl) (by omega) (by omega)) ?_
      obtain ⟨A_7, c_8, hv_9, hr_10⟩ := hsl_5.at (i := i) (by omega) (by omega)
      refine wr_y rfl (y_ld Try.underlying22 rfl rfl rfl (rdr 0 rfl) hv_9) ?_
      refine wr_y rfl (y_len Try.underlying22 rfl) ?_
      refine wr_y rfl (Yl.f (y_eq rfl rfl) (by have := (canon_at (rdl_mem2 (ws := canon ws) (i := i) hi0 (by omega))).2; omega)) ?_
      refine wr_y rfl (y_move rfl) ?_
      refine wr_yes rfl rfl ?_
      refine wr_y rfl (y_move rfl) ?_
      refine wr_yes rfl rfl ?_
      refine wr_y rfl (y_move rfl) ?_
      refine wr_yes rfl rfl ?_
      refine wr_y rfl (y_index1 Try.underlying30 sz22 rfl rfl (rdr 0 rfl) (by omega) (by omega)) ?_
      refine wr_yes rfl rfl ?_
      obtain ⟨A_11, c_12, hv_13, hr_14⟩ := hsl_5.at (i := i) (by omega) (by omega)
      refine wr_y rfl (y_ld Try.underlying22 rfl rfl rfl (rdr 0 rfl) hv_13) ?_
      refine wr_yes rfl rfl ?_
      refine wr_a rfl (a_callF en20 rfl (Ct.quiet (fun w hw => atR6_ct ((fun _ h => hr_14 _ _ _ (h.right (R' := [_]))) w hw) (by have := (canon_w hob hNN.1 (rdl_mem2 hi0 (by omega))).2.2; omega)))) ?_
      rintro _ _ ⟨rfl, rfl⟩
      refine wr_yes rfl rfl ?_
      refine wr_y rfl (Yl.f (y_ne rfl rfl) (by rw [(canon_at (rdl_mem2 hi0 (by omega))).1]; simp)) ?_
      refine wr_y rfl (y_pickF rfl rfl) ?_
      refine wr_nil ?_
      refine w_false rfl ?_
      refine w_skip ?_
      refine w_reg ?_
      refine wr_y rfl (y_move rfl) ?_
      refine wr_y rfl (y_addI rfl rfl (by omega)) ?_
      refine wr_y rfl (y_assign rfl) ?_
      refine wr_nil ?_
      exact ⟨i + 1, ⟨(by omega), (by omega)⟩, (by omega), (Sub.cons rfl (Sub.cons rfl Sub.nil)), fun _ h => h⟩
    ·
      refine w_exit ?_
      refine w_seq ?_
      refine w_reg ?_
      refine wr_y rfl (y_move rfl) ?_
      refine wr_a rfl (a_callF en19 rfl (Ct.fresh (fun w hw => canonN_ct ((rdr 0 rfl) w hw) (hsl_5.slw (canon_ok s_ws.okB) (Hp.right (R' := [_]) hw)) ⟨canon_small hNN.1, by omega⟩))) ?_
      rintro _ _ ⟨_, rfl, A_15, c_16, vals_17, Rs_18, rfl, hsl_19, rfl⟩
      have hn_hsl_19 := hsl_19.1
      have hw_21 := hsl_19.left Rs_4
      have hw_22 := hsl_5.right Rs_18
      refine wr_sub (R1 := (⟨22, 1, A_15, vals_17.length, c_16, vals_17, false⟩ :: ⟨22, 1, A_1, vals_3.length, c_2, vals_3, false⟩ :: (Rs_18 ++ Rs_4))) (Sub.refl _) (fun _ h => Hp.toTail (X := [_]) (Y := [_]) h) ?_
      refine wr_y rfl (y_move rfl) ?_
      refine wr_a rfl (a_callF en21 rfl (Ct.quiet (fun w hw => rows9_ct ((rdr 0 rfl) w hw) (hw_21.slw (canon_ok (canon_ok s_ws.okB)) (Hp.right (R' := [_, _]) hw)) ((rdr 1 rfl) w hw) (hw_22.slw (canon_ok s_ws.okB) (Hp.right (R' := [_, _]) hw)) (by rw [canon_canon]; omega)))) ?_
      rintro _ _ ⟨rfl, rfl⟩
      refine wr_setT 32 rfl (canon_canon ws) ?_
      refine wr_y rfl (y_move rfl) ?_
      refine wr_yes rfl rfl ?_
      refine wr_a rfl (a_callF en22 rfl (Ct.quiet (fun w hw => known9_ct))) ?_
      rintro _ _ ⟨rfl, rfl⟩
      refine wr_y rfl (y_pickT rfl rfl) ?_
      refine wr_y rfl (y_assign rfl) ?_
      refine wr_nil ?_
      refine w_retR (R1 := []) (fun _ h => (h.selR (F := [_, _]) (F' := []) [] (by decide) rfl).left (X := [])) ?_
      refine ⟨_, rfl, ?_⟩
      rfl

/-! whorl/whorllaw9.NecklaceCanons -/
set_option maxRecDepth 100000 in
set_option maxHeartbeats 1000000 in
theorem necklaceCanons_ct {w : World} {A_ws : Option Addr} {n_ws c_ws : Nat} {vals_ws : List Value} {ws : List (List Int)} (h_ws : Rd w A_ws n_ws c_ws 1 vals_ws) (s_ws : SlW .u8 w vals_ws ws) :
    Ct Try.prog 6 #[.slice A_ws n_ws c_ws] w.heap.size w [] (fun v R' => v = .bool true) := by
  obtain rfl : n_ws = ws.length := by have := h_ws.len; have := s_ws.1; omega
  refine fn1 Try.func6 rfl rfl rfl ?_
  have m_ws := h_ws.max
  refine w_seq ?_
  refine w_reg ?_
  refine wr_y rfl (y_assign rfl) ?_
  refine wr_nil ?_
  refine w_seq ?_
  refine w_seq ?_
  refine w_reg ?_
  refine wr_y rfl (y_move rfl) ?_
  refine wr_a rfl (a_callF en18 rfl (Ct.quiet (fun w hw => long9_ct ((h_ws.c _) w hw) (s_ws.c hw)))) ?_
  rintro _ _ ⟨rfl, rfl⟩
  refine wr_nil ?_
  refine w_if rfl (fun hc1 => ?_) (fun hc1 => ?_)
  ·
    refine w_seq ?_
    refine w_reg ?_
    refine wr_y rfl (y_assign rfl) ?_
    refine wr_nil ?_
    refine w_retR (R1 := []) (fun _ h => (h.selR (F := []) (F' := []) [] (by decide) rfl).left (X := [])) ?_
    refine ⟨_, rfl, ?_⟩
    rfl
  ·
    have hlg := long_no hc1
    have hNN : (∀ w ∈ ws, w.length ≤ 8000) ∧ ws.length ≤ 100000 := ⟨fun w hw => Nat.le_trans (hlg.2.2 w hw) (by decide), by omega⟩
    have hfew := canon_few ws
    have hob := s_ws.okB
    refine w_skip ?_
    refine w_seq ?_
    refine w_reg ?_
    refine wr_y rfl (y_move rfl) ?_
    refine wr_a rfl (a_callF en23 rfl (Ct.fresh (fun w hw => rootsN_ct ((h_ws.c _) w hw) (s_ws.c hw) hNN))) ?_
    rintro _ _ ⟨_, rfl, A_1, c_2, A_3, c_4, vals_5, Rs_6, rfl, hsl_7, rfl⟩
    have hn_hsl_7 := hsl_7.1
    refine wr_sub (R1 := (⟨22, 1, A_1, vals_5.length, c_2, vals_5, false⟩ :: ⟨3, 1, A_3, ((ringS ws).map Prod.snd).length, c_4, ints .i64 ((ringS ws).map Prod.snd), false⟩ :: Rs_6)) (Sub.refl _) (fun _ h => Hp.toTail0 (X := [_, _]) (Y := []) h) ?_
    refine wr_y rfl (y_move rfl) ?_
    refine wr_y rfl (y_extract rfl rfl) ?_
    refine wr_y rfl (y_extract rfl rfl) ?_
    refine wr_y rfl (y_assign rfl) ?_
    refine wr_y rfl (y_assign rfl) ?_
    refine wr_nil ?_
    refine w_seq ?_
    refine w_reg ?_
    refine wr_y rfl (y_move rfl) ?_
    refine wr_a rfl (a_callF en24 rfl (Ct.fresh (fun w hw => roots9_ct ((h_ws.c _) w hw) (s_ws.c hw) hNN))) ?_
    rintro _ _ ⟨_, rfl, A_10, c_11, A_12, c_13, vals_14, Rs_15, rfl, hsl_16, rfl⟩
    have hn_hsl_16 := hsl_16.1
    have hw_19 := hsl_16.left Rs_6
    have hw_20 := hsl_7.right Rs_15
    refine wr_sub (R1 := (⟨22, 1, A_10, vals_14.length, c_11, vals_14, false⟩ :: ⟨3, 1, A_12, ((ringS ws).map Prod.snd).length, c_13, ints .i64 ((ringS ws).map Prod.snd), false⟩ :: ⟨22, 1, A_1, vals_5.length, c_2, vals_5, false⟩ :: ⟨3, 1, A_3, ((ringS ws).map Prod.snd).length, c_4, ints .i64 ((ringS ws).map Prod.snd), false⟩ :: (Rs_15 ++ Rs_6))) (Sub.refl _) (fun _ h => Hp.toTail (X := [_, _]) (Y := [_, _]) h) ?_
    refine wr_y rfl (y_move rfl) ?_
    refine wr_y rfl (y_extract rfl rfl) ?_
    refine wr_y rfl (y_extract rfl rfl) ?_
    refine wr_y rfl (y_assign rfl) ?_
    refine wr_y rfl (y_assign rfl) ?_
    refine wr_nil ?_
    refine w_seq ?_
    refine w_reg ?_
    refine wr_y rfl (y_move rfl) ?_
    refine wr_a rfl (a_callF en19 rfl (Ct.fresh (fun w hw => canonN_ct ((h_ws.c _) w hw) (s_ws.c hw) hNN))) ?_
    rintro _ _ ⟨_, rfl, A_21, c_22, vals_23, Rs_24, rfl, hsl_25, rfl⟩
    have hn_hsl_25 := hsl_25.1
    have hw_27 := hsl_25.left (Rs_15 ++ Rs_6)
    have hw_28 := hw_19.right Rs_24
    have hw_29 := hw_20.right Rs_24
    refine wr_sub (R1 := (⟨22, 1, A_21, vals_23.length, c_22, vals_23, false⟩ :: ⟨22, 1, A_10, vals_14.length, c_11, vals_14, false⟩ :: ⟨3, 1, A_12, ((ringS ws).map Prod.snd).length, c_13, ints .i64 ((ringS ws).map Prod.snd), false⟩ :: ⟨22, 1, A_1, vals_5.length, c_2, vals_5, false⟩ :: ⟨3, 1, A_3, ((ringS ws).map Prod.snd).length, c_4, ints .i64 ((ringS ws).map Prod.snd), false⟩ :: (Rs_24 ++ (Rs_15 ++ Rs_6)))) (Sub.refl _) (fun _ h => Hp.toTail (X := [_]) (Y := [_, _, _, _]) h) ?_
    refine wr_y rfl (y_move rfl) ?_
    refine wr_a rfl (a_callF en25 rfl (Ct.fresh (fun w hw => canon9_ct ((h_ws.c _) w hw) (s_ws.c hw) hNN))) ?_
    rintro _ _ ⟨_, rfl, A_30, c_31, vals_32, Rs_33, rfl, hsl_34, rfl⟩
    have hn_hsl_34 := hsl_34.1
    have hw_36 := hsl_34.left (Rs_24 ++ (Rs_15 ++ Rs_6))
    have hw_37 := hw_27.right Rs_33
    have hw_38 := hw_28.right Rs_33
    have hw_39 := hw_29.right Rs_33
    refine wr_sub (R1 := (⟨22, 1, A_30, vals_32.length, c_31, vals_32, false⟩ :: ⟨22, 1, A_21, vals_23.length, c_22, vals_23, false⟩ :: ⟨22, 1, A_10, vals_14.length, c_11, vals_14, false⟩ :: ⟨3, 1, A_12, ((ringS ws).map Prod.snd).length, c_13, ints .i64 ((ringS ws).map Prod.snd), false⟩ :: ⟨22, 1, A_1, vals_5.length, c_2, vals_5, false⟩ :: ⟨3, 1, A_3, ((ringS ws).map Prod.snd).length, c_4, ints .i64 ((ringS ws).map Prod.snd), false⟩ :: (Rs_33 ++ (Rs_24 ++ (Rs_15 ++ Rs_6))))) (Sub.refl _) (fun _ h => Hp.toTail (X := [_]) (Y := [_, _, _, _, _]) h) ?_
    refine wr_a rfl (a_callF en21 rfl (Ct.quiet (fun w hw => rows9_ct ((rdr 1 rfl) w hw) (hw_37.slw (canon_ok s_ws.okB) (Hp.right (R' := [_, _, _, _, _, _]) hw)) ((rdr 0 rfl) w hw) (hw_36.slw (canon_ok s_ws.okB) (Hp.right (R' := [_, _, _, _, _, _]) hw)) (by omega)))) ?_
    rintro _ _ ⟨rfl, rfl⟩
    refine wr_setT 23 rfl (rfl) ?_
    refine wr_y rfl (y_move rfl) ?_
    refine wr_yes rfl rfl ?_
    refine wr_y rfl (y_move rfl) ?_
    refine wr_yes rfl rfl ?_
    refine wr_y rfl (y_move rfl) ?_
    refine wr_yes rfl rfl ?_
    refine wr_a rfl (a_callF en21 rfl (Ct.quiet (fun w hw => rows9_ct ((rdr 4 rfl) w hw) (hw_39.slw (roots_ok s_ws.okB) (Hp.right (R' := [_, _, _, _, _, _]) hw)) ((rdr 2 rfl) w hw) (hw_38.slw (roots_ok s_ws.okB) (Hp.right (R' := [_, _, _, _, _, _]) hw)) (by rw [List.length_map, (ringS_perm ws).length_eq]; have := ringsOf_few ws; omega)))) ?_
    rintro _ _ ⟨rfl, rfl⟩
    refine wr_setT 27 rfl (rfl) ?_
    refine wr_y rfl (y_pickT rfl rfl) ?_
    refine wr_y rfl (y_move rfl) ?_
    refine wr_yes rfl rfl ?_
    refine wr_y rfl (y_move rfl) ?_
    refine wr_yes rfl rfl ?_
    refine wr_y rfl (y_move rfl) ?_
    refine wr_yes rfl rfl ?_
    refine wr_a rfl (a_callF en26 rfl (Ct.quiet (fun w hw => ints4_ct ((rdr 5 rfl) w hw) ((rdr 3 rfl) w hw) (by rw [List.length_map, (ringS_perm ws).length_eq]; have := ringsOf_few ws; omega)))) ?_
    rintro _ _ ⟨rfl, rfl⟩
    refine wr_setT 32 rfl (rfl) ?_
    refine wr_y rfl (y_pickT rfl rfl) ?_
    refine wr_y rfl (y_move rfl) ?_
    refine wr_yes rfl rfl ?_
    refine wr_a rfl (a_callF en22 rfl (Ct.quiet (fun w hw => known9_ct))) ?_
    rintro _ _ ⟨rfl, rfl⟩
    refine wr_y rfl (y_pickT rfl rfl) ?_
    refine wr_y rfl (y_assign rfl) ?_
    refine wr_nil ?_
    refine w_retR (R1 := []) (fun _ h => (h.selR (F := [_, _, _, _, _, _]) (F' := []) [] (by decide) rfl).left (X := [])) ?_
    refine ⟨_, rfl, ?_⟩
    rfl

theorem okB_nil : OkB [] := fun l hl => by cases hl
theorem other_step {ws ls : List (List Int)} {i : Int} {x : List Int} (hx : x = rdl ws i ∨ ∃ r : Int, (0 < (rdl ws i).length ∧ 0 ≤ r ∧ r ≤ (rdl ws i).length) ∧ x = turnS (rdl ws i) r) (h0 : 0 ≤ i) (h1 : i < ws.length) (h : (ringsOf ls).Perm (ringsOf (ws.drop (i + 1).toNat))) : (ringsOf (ls ++ [x])).Perm (ringsOf (ws.drop (i - 1 + 1).toNat)) := by
  have e : ringsOf [x] = ringsOf [rdl ws i] := by
    rcases hx with rfl | ⟨r, ⟨hp, hr⟩, rfl⟩
    · rfl
    · have hl := turnS_len (rdl ws i) r
      have ht := ringOf_turn (u := rdl ws i) (r := r.toNat) (by omega) hp
      rw [Int.toNat_of_nonneg hr.1] at ht
      unfold ringsOf
      simp [hl, hp, ht]
  rw [show i - 1 + 1 = i by omega, rdl_drop h0 h1, ringsOf_append, e, show rdl ws i :: ws.drop (i + 1).toNat = [rdl ws i] ++ ws.drop (i + 1).toNat from rfl, ringsOf_append]
  exact List.perm_append_comm.trans (List.Perm.append_left _ h)
theorem same_not {ws ls : List (List Int)} {x : List Int} (hx : 0 < x.length) (h : (ringsOf ls).Perm (ringsOf ws)) : ¬ canon ws = canon (ls ++ [x]) := fun e => by
  have h1 := congrArg List.length e
  have e2 : ringsOf [x] = [ringOf x] := by unfold ringsOf; simp [hx]
  rw [canon_len, canon_len, ringsOf_append, e2, List.length_append, h.length_eq] at h1
  simp at h1
/-! whorl/whorllaw9.NecklaceSame -/
set_option maxRecDepth 100000 in
set_option maxHeartbeats 2000000 in
theorem necklaceSame_ct {w : World} {A_ws : Option Addr} {n_ws c_ws : Nat} {vals_ws : List Value} {ws : List (List Int)} {A_tn : Option Addr} {n_tn c_tn : Nat} {tn : List Int} {A_more : Option Addr} {n_more c_more : Nat} {more : List Int} (h_ws : Rd w A_ws n_ws c_ws 1 vals_ws) (s_ws : SlW .u8 w vals_ws ws) (h_tn : Rd w A_tn n_tn c_tn 1 (ints .i64 tn)) (h_more : Rd w A_more n_more c_more 1 (ints .u8 more)) (bh_more : ByteL more) :
    Ct Try.prog 11 #[.slice A_ws n_ws c_ws, .slice A_tn n_tn c_tn, .slice A_more n_more c_more] w.heap.size w [] (fun v R' => v = .bool true) := by
  obtain rfl := h_tn.lenI
  obtain rfl := h_more.lenI
  obtain rfl : n_ws = ws.length := by have := h_ws.len; have := s_ws.1; omega
  refine fn1 Try.func11 rfl rfl rfl ?_
  have m_ws := h_ws.max
  have m_tn := h_tn.max
  have m_more := h_more.max
  refine w_seq ?_
  refine w_reg ?_
  refine wr_y rfl (y_assign rfl) ?_
  refine wr_nil ?_
  refine w_seq ?_
  refine w_seq ?_
  refine w_reg ?_
  refine wr_y rfl (y_move rfl) ?_
  refine wr_a rfl (a_callF en18 rfl (Ct.quiet (fun w hw => long9_ct ((h_ws.c _) w hw) (s_ws.c hw)))) ?_
  rintro _ _ ⟨rfl, rfl⟩
  refine wr_y rfl (y_move rfl) ?_
  refine wr_mid 4 [(0, .slice A_ws ws.length c_ws), (1, .slice A_tn tn.length c_tn), (2, .slice A_more more.length c_more), (16, .bool (decide ((longP 150 ws) ∨ (((more.length : Nat) : Int) < 1))))] ([]) ?_ ?_
  ·
    refine wr_case 12 rfl (fun hc1 => ?_) (fun hc1 => ?_)
    ·
      refine wr_no rfl rfl rfl rfl ?_
      refine wr_no rfl rfl rfl rfl ?_
      refine wr_no rfl rfl rfl rfl ?_
      refine wr_y rfl (y_pickT rfl rfl) ?_
      refine wr_nil ?_
      exact ⟨(Sub.cons rfl (Sub.cons rfl (Sub.cons rfl (Sub.to rfl (mb_t (by first | omega | exact ⟨fun h => ⟨(by assumption), h⟩, fun h => h.2⟩ | simp [*])) Sub.nil)))), fun _ h => h⟩
    ·
      refine wr_yes rfl rfl ?_
      refine wr_y rfl (y_move rfl) ?_
      refine wr_yes rfl rfl ?_
      refine wr_y rfl (y_len Try.underlying22 rfl) ?_
      refine wr_yes rfl rfl ?_
      refine wr_y rfl (y_lt rfl rfl) ?_
      refine wr_y rfl (y_pickF rfl rfl) ?_
      refine wr_nil ?_
      exact ⟨(Sub.cons rfl (Sub.cons rfl (Sub.cons rfl (Sub.to rfl (mb (by first | omega | exact ⟨fun h => ⟨(by assumption), h⟩, fun h => h.2⟩ | simp [*])) Sub.nil)))), fun _ h => h⟩
  refine wr_y rfl (y_move rfl) ?_
  refine wr_mid 4 [(0, .slice A_ws ws.length c_ws), (1, .slice A_tn tn.length c_tn), (2, .slice A_more more.length c_more), (21, .bool (decide (((longP 150 ws) ∨ (((more.length : Nat) : Int) < 1)) ∨ (50 < ((more.length : Nat) : Int)))))] ([]) ?_ ?_
  ·
    refine wr_case 17 rfl (fun hc2 => ?_) (fun hc2 => ?_)
    ·
      refine wr_no rfl rfl rfl rfl ?_
      refine wr_no rfl rfl rfl rfl ?_
      refine wr_no rfl rfl rfl rfl ?_
      refine wr_y rfl (y_pickT rfl rfl) ?_
      refine wr_nil ?_
      exact ⟨(Sub.cons rfl (Sub.cons rfl (Sub.cons rfl (Sub.to rfl (mb_t (by first | omega | exact ⟨fun h => ⟨(by assumption), h⟩, fun h => h.2⟩ | simp [*])) Sub.nil)))), fun _ h => h⟩
    ·
      refine wr_yes rfl rfl ?_
      refine wr_y rfl (y_move rfl) ?_
      refine wr_yes rfl rfl ?_
      refine wr_y rfl (y_len Try.underlying22 rfl) ?_
      refine wr_yes rfl rfl ?_
      refine wr_y rfl (y_gt rfl rfl) ?_
      refine wr_y rfl (y_pickF rfl rfl) ?_
      refine wr_nil ?_
      exact ⟨(Sub.cons rfl (Sub.cons rfl (Sub.cons rfl (Sub.to rfl (mb (by first | omega | exact ⟨fun h => ⟨(by assumption), h⟩, fun h => h.2⟩ | simp [*])) Sub.nil)))), fun _ h => h⟩
  refine wr_nil ?_
  refine w_if rfl (fun hc3 => ?_) (fun hc3 => ?_)
  ·
    refine w_seq ?_
    refine w_reg ?_
    refine wr_y rfl (y_assign rfl) ?_
    refine wr_nil ?_
    refine w_retR (R1 := []) (fun _ h => (h.selR (F := []) (F' := []) [] (by decide) rfl).left (X := [])) ?_
    refine ⟨_, rfl, ?_⟩
    rfl
  ·
    have hlg := long_no (M := 150) (fun h => hc3 (by first | exact .inl h | exact .inl (.inl h)))
    have hNN : (∀ w ∈ ws, w.length ≤ 8000) ∧ ws.length ≤ 100000 := ⟨fun w hw => Nat.le_trans (hlg.2.2 w hw) (by decide), by omega⟩
    have hfew := canon_few ws
    have hob := s_ws.okB
    refine w_skip ?_
    refine w_seq ?_
    refine w_reg ?_
    refine wr_sub (R1 := (⟨22, 1, none, 0, 0, [], false⟩ :: [])) (Sub.refl _) (fun _ h => h.nil 22 1) ?_
    refine wr_y rfl (y_assign rfl) ?_
    refine wr_nil ?_
    refine w_seq ?_
    refine w_seq ?_
    refine w_reg ?_
    refine wr_y rfl (y_move rfl) ?_
    refine wr_y rfl (y_len Try.underlying30 rfl) ?_
    refine wr_y rfl (y_subI rfl rfl (by omega)) ?_
    refine wr_y rfl (y_assign rfl) ?_
    refine wr_nil ?_
    refine w_block ?_
    refine w_loop7 (fun (i : Int) (A1 : Option Addr) (n1 : Nat) (c1 : Nat) (vals : List Value) (ls : List (List Int)) (Rs : List Row) => [(0, .slice A_ws ws.length c_ws), (1, .slice A_tn tn.length c_tn), (2, .slice A_more more.length c_more), (7, .slice A1 n1 c1), (8, .int .i64 i)]) (fun (i : Int) (A1 : Option Addr) (n1 : Nat) (c1 : Nat) (vals : List Value) (ls : List (List Int)) (Rs : List Row) => (⟨22, 1, A1, n1, c1, vals, false⟩ :: Rs)) (fun (i : Int) (A1 : Option Addr) (n1 : Nat) (c1 : Nat) (vals : List Value) (ls : List (List Int)) (Rs : List Row) => (-1 ≤ i) ∧ (i < ws.length) ∧ (n1 = vals.length) ∧ (vals.length = ls.length) ∧ ((ls.length : Int) = ws.length - 1 - i) ∧ (∀ w', Hp w.heap.size w w' Rs → SlW .u8 w' vals ls) ∧ ((ringsOf ls).Perm (ringsOf (ws.drop (i + 1).toNat))) ∧ (∀ c ∈ ls, c.length ≤ 150)) (fun (i : Int) (A1 : Option Addr) (n1 : Nat) (c1 : Nat) (vals : List Value) (ls : List (List Int)) (Rs : List Row) => (i + 1).toNat) ?_ ?_
    ·
      exact ⟨((ws.length : Nat) : Int) - 1, none, 0, 0, [], [], [], ⟨(by omega), (by omega), (rfl), (rfl), (by simp only [List.length_nil]; omega), (fun _ _ => slw_none _ _), (by rw [List.drop_of_length_le (by omega)]), (fun c hc => by cases hc)⟩, (Sub.cons rfl (Sub.cons rfl (Sub.cons rfl (Sub.cons rfl (Sub.cons rfl Sub.nil))))), fun _ h => h⟩
    intro i A1 n1 c1 vals ls Rs ⟨him, hi1, hn1, hvl, hln, hsx, hpr, hsm⟩
    have hwl : 0 ≤ i → (rdl ws i).length ≤ 150 := fun h => hlg.2.2 _ (rdl_mem2 h hi1)
    refine w_seq ?_
    refine w_seq ?_
    refine w_reg ?_
    refine wr_y rfl (y_move rfl) ?_
    refine wr_y rfl (y_ge rfl rfl) ?_
    refine wr_nil ?_
    refine w_if rfl (fun hc4 => ?_) (fun hc4 => ?_)
    ·
      have hi0 : 0 ≤ i := by omega
      have hwl2 := hwl hi0
      refine w_skip ?_
      refine w_seq ?_
      refine w_block ?_
      refine w_seq ?_
      refine w_reg ?_
      refine wr_y rfl (y_move rfl) ?_
      refine wr_y rfl (y_move rfl) ?_
      refine wr_y rfl (y_index1 Try.underlying30 sz22 rfl rfl (h_ws.c _) (by omega) (by omega)) ?_
      obtain ⟨A_1, c_2, hv_3, hr_4, hb_5, mhr_4⟩ := s_ws.at (i := i) (by omega) (by omega)
      refine wr_y rfl (y_ld Try.underlying22 rfl rfl rfl (h_ws.c _) hv_3) ?_
      refine wr_y rfl (y_assign rfl) ?_
      refine wr_nil ?_
      refine w_seq ?_
      refine w_seq ?_
      refine w_reg ?_
      refine wr_y rfl (y_move rfl) ?_
      refine wr_y rfl (y_len Try.underlying22 rfl) ?_
      refine wr_y rfl (y_gt rfl rfl) ?_
      refine wr_y rfl (y_move rfl) ?_
      refine wr_mid 5 [(0, .slice A_ws ws.length c_ws), (1, .slice A_tn tn.length c_tn), (2, .slice A_more more.length c_more), (7, .slice A1 n1 c1), (8, .int .i64 i), (9, .slice A_1 ((rdl ws i).length) c_2), (41, .bool (decide ((0 < (((rdl ws i).length : Nat) : Int)) ∧ (i < ((tn.length : Nat) : Int)))))] (⟨22, 1, A1, n1, c1, vals, false⟩ :: Rs) ?_ ?_
      ·
        refine wr_case 36 rfl (fun hc5 => ?_) (fun hc5 => ?_)
        ·
          refine wr_yes rfl rfl ?_
          refine wr_y rfl (y_move rfl) ?_
          refine wr_yes rfl rfl ?_
          refine wr_y rfl (y_move rfl) ?_
          refine wr_yes rfl rfl ?_
          refine wr_y rfl (y_len Try.underlying35 rfl) ?_
          refine wr_yes rfl rfl ?_
          refine wr_y rfl (y_lt rfl rfl) ?_
          refine wr_y rfl (y_pickT rfl rfl) ?_
          refine wr_nil ?_
          exact ⟨(Sub.cons rfl (Sub.cons rfl (Sub.cons rfl (Sub.cons rfl (Sub.cons rfl (Sub.cons rfl (Sub.to rfl (mb (by first | omega | exact ⟨fun h => ⟨(by assumption), h⟩, fun h => h.2⟩ | simp [*])) Sub.nil))))))), fun _ h => h⟩
        ·
          refine wr_no rfl rfl rfl rfl ?_
          refine wr_no rfl rfl rfl rfl ?_
          refine wr_no rfl rfl rfl rfl ?_
          refine wr_no rfl rfl rfl rfl ?_
          refine wr_y rfl (y_pickF rfl rfl) ?_
          refine wr_nil ?_
          exact ⟨(Sub.cons rfl (Sub.cons rfl (Sub.cons rfl (Sub.cons rfl (Sub.cons rfl (Sub.cons rfl (Sub.to rfl (mb_f (by first | omega | exact ⟨fun h => ⟨(by assumption), h⟩, fun h => h.2⟩ | simp [*])) Sub.nil))))))), fun _ h => h⟩
      refine wr_nil ?_
      refine w_if rfl (fun hc6 => ?_) (fun hc6 => ?_)
      ·
        have hm1 := Int.emod_nonneg ((BitVec.ofInt 64 (rd tn i) &&& 65535#64).toNat : Int) (show ((rdl ws i).length : Int) ≠ 0 by omega)
        have hm2 := Int.emod_lt_of_pos ((BitVec.ofInt 64 (rd tn i) &&& 65535#64).toNat : Int) (show (0 : Int) < (rdl ws i).length by omega)
        refine w_reg ?_
        refine wr_y rfl (y_move rfl) ?_
        refine wr_y rfl (y_move rfl) ?_
        refine wr_y rfl (y_move rfl) ?_
        refine wr_y rfl (y_index1 Try.underlying35 sz3 rfl rfl (h_tn.c _) (by omega) (by omega)) ?_
        refine wr_y rfl (y_ldI Try.underlying3 rfl rfl (h_tn.c _) (by omega) (by omega)) ?_
        refine wr_y rfl (y_andM (m := 65535) rfl rfl) ?_
        refine wr_y rfl (y_move rfl) ?_
        refine wr_y rfl (y_len Try.underlying22 rfl) ?_
        refine wr_y rfl (y_rem rfl rfl (by omega) (by omega)) ?_
        refine wr_a rfl (a_callF en28 rfl (Ct.fresh (fun w hw => turn4_ct ((hr_4.c _) w hw) (by omega) (by omega)))) ?_
        rintro _ _ ⟨_, rfl, A_6, c_7, rfl, rfl⟩
        refine wr_y rfl (y_assign rfl) ?_
        refine wr_nil ?_
        refine w_reg ?_
        refine wr_y rfl (y_move rfl) ?_
        refine wr_y rfl (y_move rfl) ?_
        refine wr_a rfl (a_lit [Value.slice A_6 (((rdl ws i).drop ((((BitVec.ofInt 64 (rd tn i) &&& 65535#64).toNat : Int) % (((rdl ws i).length : Nat) : Int))).toNat ++ (rdl ws i).take ((((BitVec.ofInt 64 (rd tn i) &&& 65535#64).toNat : Int) % (((rdl ws i).length : Nat) : Int))).toNat).length) c_7] Try.underlying30 zs22 rfl rfl rfl rfl) ?_
        rintro _ _ ⟨g_9, rfl, rfl⟩
        refine wr_a rfl (a_append 2 rfl rfl Try.underlying30 zb22 rfl rfl rfl rfl rfl (rdr 0 rfl) (by simp [Value.oneCell']) (by dsimp only; omega)) ?_
        rintro _ _ ⟨A_10, c_11, rfl, rfl⟩
        refine wr_rows (R1 := (⟨22, 1, (some ⟨g_9, 0, none⟩), 1, 1, [Value.slice A_6 (((rdl ws i).drop ((((BitVec.ofInt 64 (rd tn i) &&& 65535#64).toNat : Int) % (((rdl ws i).length : Nat) : Int))).toNat ++ (rdl ws i).take ((((BitVec.ofInt 64 (rd tn i) &&& 65535#64).toNat : Int) % (((rdl ws i).length : Nat) : Int))).toNat).length) c_7], false⟩ :: ⟨5, 1, A_6, ((rdl ws i).drop ((((BitVec.ofInt 64 (rd tn i) &&& 65535#64).toNat : Int) % (((rdl ws i).length : Nat) : Int))).toNat ++ (rdl ws i).take ((((BitVec.ofInt 64 (rd tn i) &&& 65535#64).toNat : Int) % (((rdl ws i).length : Nat) : Int))).toNat).length, c_7, ints .u8 ((rdl ws i).drop ((((BitVec.ofInt 64 (rd tn i) &&& 65535#64).toNat : Int) % (((rdl ws i).length : Nat) : Int))).toNat ++ (rdl ws i).take ((((BitVec.ofInt 64 (rd tn i) &&& 65535#64).toNat : Int) % (((rdl ws i).length : Nat) : Int))).toNat), false⟩ :: ⟨22, 1, A_10, (n1 + 1), c_11, vals ++ ([Value.slice A_6 (((rdl ws i).drop ((((BitVec.ofInt 64 (rd tn i) &&& 65535#64).toNat : Int) % (((rdl ws i).length : Nat) : Int))).toNat ++ (rdl ws i).take ((((BitVec.ofInt 64 (rd tn i) &&& 65535#64).toNat : Int) % (((rdl ws i).length : Nat) : Int))).toNat).length) c_7]), false⟩ :: Rs)) rfl ?_
        refine wr_as (v := .slice A_10 (n1 + 1) c_11) rfl ?_
        refine wr_y rfl (y_assign rfl) ?_
        refine wr_nil ?_
        refine w_reg ?_
        refine wr_y rfl (y_move rfl) ?_
        refine wr_y rfl (y_subI rfl rfl (by omega)) ?_
        refine wr_y rfl (y_assign rfl) ?_
        refine wr_nil ?_
        exact ⟨i - 1, A_10, n1 + 1, c_11, vals ++ ([Value.slice A_6 (((rdl ws i).drop ((((BitVec.ofInt 64 (rd tn i) &&& 65535#64).toNat : Int) % (((rdl ws i).length : Nat) : Int))).toNat ++ (rdl ws i).take ((((BitVec.ofInt 64 (rd tn i) &&& 65535#64).toNat : Int) % (((rdl ws i).length : Nat) : Int))).toNat).length) c_7]), (ls ++ [(rdl ws i).drop ((((BitVec.ofInt 64 (rd tn i) &&& 65535#64).toNat : Int) % (((rdl ws i).length : Nat) : Int))).toNat ++ (rdl ws i).take ((((BitVec.ofInt 64 (rd tn i) &&& 65535#64).toNat : Int) % (((rdl ws i).length : Nat) : Int))).toNat]), (⟨5, 1, A_6, ((rdl ws i).drop ((((BitVec.ofInt 64 (rd tn i) &&& 65535#64).toNat : Int) % (((rdl ws i).length : Nat) : Int))).toNat ++ (rdl ws i).take ((((BitVec.ofInt 64 (rd tn i) &&& 65535#64).toNat : Int) % (((rdl ws i).length : Nat) : Int))).toNat).length, c_7, ints .u8 ((rdl ws i).drop ((((BitVec.ofInt 64 (rd tn i) &&& 65535#64).toNat : Int) % (((rdl ws i).length : Nat) : Int))).toNat ++ (rdl ws i).take ((((BitVec.ofInt 64 (rd tn i) &&& 65535#64).toNat : Int) % (((rdl ws i).length : Nat) : Int))).toNat), false⟩ :: Rs), ⟨(by omega), (by omega), (by rw [List.length_append, hn1]; rfl), (by simp only [List.length_append, List.length_singleton, hvl]), (by rw [List.length_append, List.length_singleton]; omega), (fun w' h => (hsx w' h.tail).snoc (rdr 0 rfl w' h) (fun x hx => wf_byte (ByteL.append ((hob _ (rdl_mem2 hi0 (by omega))).1.drop _) ((hob _ (rdl_mem2 hi0 (by omega))).1.take _) x hx)) (by rw [List.length_append, List.length_drop, List.length_take]; omega)), (other_step (.inr ⟨_, by omega, rfl⟩) hi0 (by omega) hpr), (fun c hc => (List.mem_append.1 hc).elim (hsm c) fun h => by
                obtain rfl := List.mem_singleton.1 h
                rw [List.length_append, List.length_drop, List.length_take]; omega)⟩, (by omega), (Sub.cons rfl (Sub.cons rfl (Sub.cons rfl (Sub.cons rfl (Sub.cons rfl Sub.nil))))), fun _ h => h.selR (F := [_, _, _]) (F' := [_, _]) [2, 1] (by decide) rfl⟩
      ·
        refine w_skip ?_
        refine w_reg ?_
        refine wr_y rfl (y_move rfl) ?_
        refine wr_y rfl (y_move rfl) ?_
        refine wr_a rfl (a_lit [Value.slice A_1 ((rdl ws i).length) c_2] Try.underlying30 zs22 rfl rfl rfl rfl) ?_
        rintro _ _ ⟨g_13, rfl, rfl⟩
        refine wr_a rfl (a_append 1 rfl rfl Try.underlying30 zb22 rfl rfl rfl rfl rfl (rdr 0 rfl) (by simp [Value.oneCell']) (by dsimp only; omega)) ?_
        rintro _ _ ⟨A_14, c_15, rfl, rfl⟩
        refine wr_rows (R1 := (⟨22, 1, (some ⟨g_13, 0, none⟩), 1, 1, [Value.slice A_1 ((rdl ws i).length) c_2], false⟩ :: ⟨22, 1, A_14, (n1 + 1), c_15, vals ++ ([Value.slice A_1 ((rdl ws i).length) c_2]), false⟩ :: Rs)) rfl ?_
        refine wr_as (v := .slice A_14 (n1 + 1) c_15) rfl ?_
        refine wr_y rfl (y_assign rfl) ?_
        refine wr_nil ?_
        refine w_reg ?_
        refine wr_y rfl (y_move rfl) ?_
        refine wr_y rfl (y_subI rfl rfl (by omega)) ?_
        refine wr_y rfl (y_assign rfl) ?_
        refine wr_nil ?_
        exact ⟨i - 1, A_14, n1 + 1, c_15, vals ++ ([Value.slice A_1 ((rdl ws i).length) c_2]), (ls ++ [rdl ws i]), Rs, ⟨(by omega), (by omega), (by rw [List.length_append, hn1]; rfl), (by simp only [List.length_append, List.length_singleton, hvl]), (by rw [List.length_append, List.length_singleton]; omega), (fun w' h => (hsx w' h).snoc (hr_4.c _ w' h) (fun x hx => wf_byte ((hob _ (rdl_mem2 hi0 (by omega))).1 x hx)) (by omega)), (other_step (.inl rfl) hi0 (by omega) hpr), (fun c hc => (List.mem_append.1 hc).elim (hsm c) fun h => by
                obtain rfl := List.mem_singleton.1 h
                omega)⟩, (by omega), (Sub.cons rfl (Sub.cons rfl (Sub.cons rfl (Sub.cons rfl (Sub.cons rfl Sub.nil))))), fun _ h => h.selR (F := [_, _]) (F' := [_]) [1] (by decide) rfl⟩
    ·
      obtain rfl : i = -1 := by omega
      rw [show ((-1 : Int) + 1).toNat = 0 by omega, List.drop_zero] at hpr
      refine w_exit ?_
      refine w_seq ?_
      refine w_reg ?_
      refine wr_y rfl (y_move rfl) ?_
      refine wr_y rfl (y_move rfl) ?_
      refine wr_a rfl (a_callF en33 rfl (Ct.quiet (fun w hw => sameN_ct ((h_ws.c _) w hw) (s_ws.c hw) ((rdr 0 rfl) w hw) (hsx w (Hp.right (R' := [_]) hw)) hNN ⟨fun w hw => Nat.le_trans (hsm w hw) (by decide), by omega⟩))) ?_
      rintro _ _ ⟨rfl, rfl⟩
      refine wr_setT 58 rfl (canon_congr hpr.symm) ?_
      refine wr_y rfl (y_move rfl) ?_
      refine wr_yes rfl rfl ?_
      refine wr_y rfl (y_move rfl) ?_
      refine wr_yes rfl rfl ?_
      refine wr_y rfl (y_move rfl) ?_
      refine wr_yes rfl rfl ?_
      refine wr_y rfl (y_move rfl) ?_
      refine wr_yes rfl rfl ?_
      refine wr_a rfl (a_lit [Value.slice A_more more.length c_more] Try.underlying30 zs22 rfl rfl rfl rfl) ?_
      rintro _ _ ⟨g_17, rfl, rfl⟩
      refine wr_yes rfl rfl ?_
      refine wr_a rfl (a_append 1 rfl rfl Try.underlying30 zb22 rfl rfl rfl rfl rfl (rdr 0 rfl) (by simp [Value.oneCell']) (by dsimp only; omega)) ?_
      rintro _ _ ⟨A_18, c_19, rfl, rfl⟩
      refine wr_rows (R1 := (⟨22, 1, (some ⟨g_17, 0, none⟩), 1, 1, [Value.slice A_more more.length c_more], false⟩ :: ⟨22, 1, A_18, (n1 + 1), c_19, vals ++ ([Value.slice A_more more.length c_more]), false⟩ :: Rs)) rfl ?_
      refine wr_as (v := .slice A_18 (n1 + 1) c_19) rfl ?_
      refine wr_yes rfl rfl ?_
      refine wr_a rfl (a_callF en33 rfl (Ct.quiet (fun w hw => sameN_ct ((h_ws.c _) w hw) (s_ws.c hw) ((rdr 1 rfl) w hw) ((hsx w (Hp.right (R' := [_, _]) hw)).snoc (h_more.c _ w hw) (fun x hx => wf_byte (bh_more x hx)) (by omega)) hNN ⟨fun w hw => (List.mem_append.1 hw).elim (fun h => Nat.le_trans (hsm w h) (by decide)) (fun h => by obtain rfl := List.mem_singleton.1 h; omega), by rw [List.length_append, List.length_singleton]; omega⟩))) ?_
      rintro _ _ ⟨rfl, rfl⟩
      refine wr_setF 65 rfl (same_not (by omega) hpr) ?_
      refine wr_yes rfl rfl ?_
      refine wr_y rfl (y_not rfl) ?_
      refine wr_y rfl (y_pickT rfl rfl) ?_
      refine wr_y rfl (y_move rfl) ?_
      refine wr_yes rfl rfl ?_
      refine wr_a rfl (a_callF en22 rfl (Ct.quiet (fun w hw => known9_ct))) ?_
      rintro _ _ ⟨rfl, rfl⟩
      refine wr_y rfl (y_pickT rfl rfl) ?_
      refine wr_y rfl (y_assign rfl) ?_
      refine wr_nil ?_
      refine w_retR (R1 := []) (fun _ h => (h.selR (F := [_, _]) (F' := []) [] (by decide) rfl).left (X := [])) ?_
      refine ⟨_, rfl, ?_⟩
      rfl

/-! whorl/whorllaw9.NecklaceParts -/
set_option maxRecDepth 100000 in
set_option maxHeartbeats 2000000 in
theorem necklaceParts_ct {w : World} {A_a : Option Addr} {n_a c_a : Nat} {vals_a : List Value} {a : List (List Int)} {A_b : Option Addr} {n_b c_b : Nat} {vals_b : List Value} {b : List (List Int)} (h_a : Rd w A_a n_a c_a 1 vals_a) (s_a : SlW .u8 w vals_a a) (h_b : Rd w A_b n_b c_b 1 vals_b) (s_b : SlW .u8 w vals_b b) :
    Ct Try.prog 12 #[.slice A_a n_a c_a, .slice A_b n_b c_b] w.heap.size w [] (fun v R' => v = .bool true) := by
  obtain rfl : n_a = a.length := by have := h_a.len; have := s_a.1; omega
  obtain rfl : n_b = b.length := by have := h_b.len; have := s_b.1; omega
  refine fn1 Try.func12 rfl rfl rfl ?_
  have m_a := h_a.max
  have m_b := h_b.max
  refine w_seq ?_
  refine w_reg ?_
  refine wr_y rfl (y_assign rfl) ?_
  refine wr_nil ?_
  refine w_seq ?_
  refine w_seq ?_
  refine w_reg ?_
  refine wr_y rfl (y_move rfl) ?_
  refine wr_a rfl (a_callF en18 rfl (Ct.quiet (fun w hw => long9_ct ((h_a.c _) w hw) (s_a.c hw)))) ?_
  rintro _ _ ⟨rfl, rfl⟩
  refine wr_y rfl (y_move rfl) ?_
  refine wr_mid 3 [(0, .slice A_a a.length c_a), (1, .slice A_b b.length c_b), (12, .bool (decide ((longP 150 a) ∨ (longP 150 b))))] ([]) ?_ ?_
  ·
    refine wr_case 9 rfl (fun hc1 => ?_) (fun hc1 => ?_)
    ·
      refine wr_no rfl rfl rfl rfl ?_
      refine wr_no rfl rfl rfl rfl ?_
      refine wr_y rfl (y_pickT rfl rfl) ?_
      refine wr_nil ?_
      exact ⟨(Sub.cons rfl (Sub.cons rfl (Sub.to rfl (mb_t (by first | omega | exact ⟨fun h => ⟨(by assumption), h⟩, fun h => h.2⟩ | simp [*])) Sub.nil))), fun _ h => h⟩
    ·
      refine wr_yes rfl rfl ?_
      refine wr_y rfl (y_move rfl) ?_
      refine wr_yes rfl rfl ?_
      refine wr_a rfl (a_callF en18 rfl (Ct.quiet (fun w hw => long9_ct ((h_b.c _) w hw) (s_b.c hw)))) ?_
      rintro _ _ ⟨rfl, rfl⟩
      refine wr_y rfl (y_pickF rfl rfl) ?_
      refine wr_nil ?_
      exact ⟨(Sub.cons rfl (Sub.cons rfl (Sub.to rfl (mb (by first | omega | exact ⟨fun h => ⟨(by assumption), h⟩, fun h => h.2⟩ | simp [*])) Sub.nil))), fun _ h => h⟩
  refine wr_nil ?_
  refine w_if rfl (fun hc2 => ?_) (fun hc2 => ?_)
  ·
    refine w_seq ?_
    refine w_reg ?_
    refine wr_y rfl (y_assign rfl) ?_
    refine wr_nil ?_
    refine w_retR (R1 := []) (fun _ h => (h.selR (F := []) (F' := []) [] (by decide) rfl).left (X := [])) ?_
    refine ⟨_, rfl, ?_⟩
    rfl
  ·
    have hla := long_no (M := 150) (fun h => hc2 (.inl h))
    have hlb := long_no (M := 150) (fun h => hc2 (.inr h))
    have hNa : (∀ w ∈ a, w.length ≤ 8000) ∧ a.length ≤ 100000 := ⟨fun w hw => Nat.le_trans (hla.2.2 w hw) (by decide), by omega⟩
    have hNb : (∀ w ∈ b, w.length ≤ 8000) ∧ b.length ≤ 100000 := ⟨fun w hw => Nat.le_trans (hlb.2.2 w hw) (by decide), by omega⟩
    have hfa := canon_few a
    have hfb := canon_few b
    refine w_skip ?_
    refine w_seq ?_
    refine w_reg ?_
    refine wr_a rfl (a_lit [] Try.underlying30 zs22 rfl rfl rfl rfl) ?_
    rintro _ _ ⟨g_2, rfl, rfl⟩
    refine wr_y rfl (y_move rfl) ?_
    refine wr_a rfl (a_append 0 rfl rfl Try.underlying30 zb22 rfl rfl rfl rfl rfl (h_a.c _) s_a.one (by dsimp only; omega)) ?_
    rintro _ _ ⟨A_3, c_4, rfl, rfl⟩
    refine wr_rows (R1 := (⟨22, 1, A_3, (0 + a.length), c_4, ([]) ++ vals_a, false⟩ :: [])) rfl ?_
    refine wr_as (v := .slice A_3 (0 + a.length) c_4) rfl ?_
    refine wr_y rfl (y_move rfl) ?_
    refine wr_a rfl (a_append 0 rfl rfl Try.underlying30 zb22 rfl rfl rfl rfl rfl (h_b.c _) s_b.one (by dsimp only; omega)) ?_
    rintro _ _ ⟨A_5, c_6, rfl, rfl⟩
    refine wr_rows (R1 := (⟨22, 1, A_5, ((0 + a.length) + b.length), c_6, (([]) ++ vals_a) ++ vals_b, false⟩ :: [])) rfl ?_
    refine wr_as (v := .slice A_5 ((0 + a.length) + b.length) c_6) rfl ?_
    refine wr_y rfl (y_assign rfl) ?_
    refine wr_nil ?_
    refine w_seq ?_
    refine w_reg ?_
    refine wr_a rfl (a_lit [] Try.underlying30 zs22 rfl rfl rfl rfl) ?_
    rintro _ _ ⟨g_8, rfl, rfl⟩
    refine wr_y rfl (y_move rfl) ?_
    refine wr_a rfl (a_callF en19 rfl (Ct.fresh (fun w hw => canonN_ct ((h_a.c _) w hw) (s_a.c hw) hNa))) ?_
    rintro _ _ ⟨_, rfl, A_9, c_10, vals_11, Rs_12, rfl, hsl_13, rfl⟩
    have hn_hsl_13 := hsl_13.1
    refine wr_sub (R1 := (⟨22, 1, A_9, vals_11.length, c_10, vals_11, false⟩ :: ⟨22, 1, (some ⟨g_8, 0, none⟩), 0, 0, [], false⟩ :: ⟨22, 1, A_5, ((0 + a.length) + b.length), c_6, (([]) ++ vals_a) ++ vals_b, false⟩ :: Rs_12)) (Sub.refl _) (fun _ h => Hp.toTail0 (X := [_]) (Y := [_, _]) h) ?_
    refine wr_a rfl (a_append 1 rfl rfl Try.underlying30 zb22 rfl rfl rfl rfl rfl (rdr 0 rfl) hsl_13.one (by dsimp only; omega)) ?_
    rintro _ _ ⟨A_14, c_15, rfl, rfl⟩
    refine wr_rows (R1 := (⟨22, 1, A_9, vals_11.length, c_10, vals_11, false⟩ :: ⟨22, 1, A_14, (0 + vals_11.length), c_15, ([]) ++ vals_11, false⟩ :: ⟨22, 1, A_5, ((0 + a.length) + b.length), c_6, (([]) ++ vals_a) ++ vals_b, false⟩ :: Rs_12)) rfl ?_
    refine wr_as (v := .slice A_14 (0 + vals_11.length) c_15) rfl ?_
    refine wr_y rfl (y_move rfl) ?_
    refine wr_a rfl (a_callF en19 rfl (Ct.fresh (fun w hw => canonN_ct ((h_b.c _) w hw) (s_b.c hw) hNb))) ?_
    rintro _ _ ⟨_, rfl, A_16, c_17, vals_18, Rs_19, rfl, hsl_20, rfl⟩
    have hn_hsl_20 := hsl_20.1
    have hw_21 := hsl_20.left Rs_12
    have hw_22 := hsl_13.right Rs_19
    refine wr_sub (R1 := (⟨22, 1, A_16, vals_18.length, c_17, vals_18, false⟩ :: ⟨22, 1, A_9, vals_11.length, c_10, vals_11, false⟩ :: ⟨22, 1, A_14, (0 + vals_11.length), c_15, ([]) ++ vals_11, false⟩ :: ⟨22, 1, A_5, ((0 + a.length) + b.length), c_6, (([]) ++ vals_a) ++ vals_b, false⟩ :: (Rs_19 ++ Rs_12))) (Sub.refl _) (fun _ h => Hp.toTail (X := [_]) (Y := [_, _, _]) h) ?_
    refine wr_a rfl (a_append 2 rfl rfl Try.underlying30 zb22 rfl rfl rfl rfl rfl (rdr 0 rfl) hw_21.one (by dsimp only; omega)) ?_
    rintro _ _ ⟨A_23, c_24, rfl, rfl⟩
    refine wr_rows (R1 := (⟨22, 1, A_16, vals_18.length, c_17, vals_18, false⟩ :: ⟨22, 1, A_9, vals_11.length, c_10, vals_11, false⟩ :: ⟨22, 1, A_23, ((0 + vals_11.length) + vals_18.length), c_24, (([]) ++ vals_11) ++ vals_18, false⟩ :: ⟨22, 1, A_5, ((0 + a.length) + b.length), c_6, (([]) ++ vals_a) ++ vals_b, false⟩ :: (Rs_19 ++ Rs_12))) rfl ?_
    refine wr_as (v := .slice A_23 ((0 + vals_11.length) + vals_18.length) c_24) rfl ?_
    refine wr_y rfl (y_assign rfl) ?_
    refine wr_nil ?_
    refine w_seq ?_
    refine w_reg ?_
    refine wr_y rfl (y_move rfl) ?_
    refine wr_a rfl (a_callF en19 rfl (Ct.fresh (fun w hw => canonN_ct ((rdr 3 rfl) w hw) (((slw_none _ _).app (s_a.c hw)).app (s_b.c hw)) ⟨fun w hw => (List.mem_append.1 hw).elim (hNa.1 w) (hNb.1 w), by show (a ++ b).length ≤ _; rw [List.length_append]; omega⟩))) ?_
    rintro _ _ ⟨_, rfl, A_25, c_26, vals_27, Rs_28, rfl, hsl_29, rfl⟩
    have hn_hsl_29 := hsl_29.1
    have hw_31 := hsl_29.left (Rs_19 ++ Rs_12)
    have hw_32 := hw_21.right Rs_28
    have hw_33 := hw_22.right Rs_28
    refine wr_sub (R1 := (⟨22, 1, A_25, vals_27.length, c_26, vals_27, false⟩ :: ⟨22, 1, A_16, vals_18.length, c_17, vals_18, false⟩ :: ⟨22, 1, A_9, vals_11.length, c_10, vals_11, false⟩ :: ⟨22, 1, A_23, ((0 + vals_11.length) + vals_18.length), c_24, (([]) ++ vals_11) ++ vals_18, false⟩ :: ⟨22, 1, A_5, ((0 + a.length) + b.length), c_6, (([]) ++ vals_a) ++ vals_b, false⟩ :: (Rs_28 ++ (Rs_19 ++ Rs_12)))) (Sub.refl _) (fun _ h => Hp.toTail (X := [_]) (Y := [_, _, _, _]) h) ?_
    refine wr_y rfl (y_move rfl) ?_
    refine wr_a rfl (a_callF en19 rfl (Ct.fresh (fun w hw => canonN_ct ((rdr 3 rfl) w hw) ((((SlR.nilR _ _).app hw_33).app hw_32).slw ((okB_nil.app (canon_ok s_a.okB)).app (canon_ok s_b.okB)) (Hp.right (R' := [_, _, _, _, _]) hw)) ⟨fun w hw => (List.mem_append.1 hw).elim (canon_small hNa.1 w) (canon_small hNb.1 w), by show (canon a ++ canon b).length ≤ _; rw [List.length_append]; omega⟩))) ?_
    rintro _ _ ⟨_, rfl, A_34, c_35, vals_36, Rs_37, rfl, hsl_38, rfl⟩
    have hn_hsl_38 := hsl_38.1
    have hw_40 := hsl_38.left (Rs_28 ++ (Rs_19 ++ Rs_12))
    have hw_41 := hw_31.right Rs_37
    have hw_42 := hw_32.right Rs_37
    have hw_43 := hw_33.right Rs_37
    refine wr_sub (R1 := (⟨22, 1, A_34, vals_36.length, c_35, vals_36, false⟩ :: ⟨22, 1, A_25, vals_27.length, c_26, vals_27, false⟩ :: ⟨22, 1, A_16, vals_18.length, c_17, vals_18, false⟩ :: ⟨22, 1, A_9, vals_11.length, c_10, vals_11, false⟩ :: ⟨22, 1, A_23, ((0 + vals_11.length) + vals_18.length), c_24, (([]) ++ vals_11) ++ vals_18, false⟩ :: ⟨22, 1, A_5, ((0 + a.length) + b.length), c_6, (([]) ++ vals_a) ++ vals_b, false⟩ :: (Rs_37 ++ (Rs_28 ++ (Rs_19 ++ Rs_12))))) (Sub.refl _) (fun _ h => Hp.toTail (X := [_]) (Y := [_, _, _, _, _]) h) ?_
    refine wr_a rfl (a_callF en21 rfl (Ct.quiet (fun w hw => rows9_ct ((rdr 1 rfl) w hw) (hw_41.slw (canon_ok ((OkB.app okB_nil s_a.okB).app s_b.okB)) (Hp.right (R' := [_, _, _, _, _, _]) hw)) ((rdr 0 rfl) w hw) (hw_40.slw (canon_ok ((okB_nil.app (canon_ok s_a.okB)).app (canon_ok s_b.okB))) (Hp.right (R' := [_, _, _, _, _, _]) hw)) (Nat.le_trans (canon_few _) (by show (a ++ b).length ≤ _; rw [List.length_append]; omega))))) ?_
    rintro _ _ ⟨rfl, rfl⟩
    refine wr_setT 29 rfl ((canon_parts a b).symm) ?_
    refine wr_y rfl (y_move rfl) ?_
    refine wr_yes rfl rfl ?_
    refine wr_y rfl (y_move rfl) ?_
    refine wr_yes rfl rfl ?_
    refine wr_y rfl (y_move rfl) ?_
    refine wr_yes rfl rfl ?_
    refine wr_a rfl (a_callF en33 rfl (Ct.quiet (fun w hw => sameN_ct ((rdr 5 rfl) w hw) (((slw_none _ _).app (s_a.c hw)).app (s_b.c hw)) ((rdr 4 rfl) w hw) ((((SlR.nilR _ _).app hw_43).app hw_42).slw ((okB_nil.app (canon_ok s_a.okB)).app (canon_ok s_b.okB)) (Hp.right (R' := [_, _, _, _, _, _]) hw)) ⟨fun w hw => (List.mem_append.1 hw).elim (hNa.1 w) (hNb.1 w), by show (a ++ b).length ≤ _; rw [List.length_append]; omega⟩ ⟨fun w hw => (List.mem_append.1 hw).elim (canon_small hNa.1 w) (canon_small hNb.1 w), by show (canon a ++ canon b).length ≤ _; rw [List.length_append]; omega⟩))) ?_
    rintro _ _ ⟨rfl, rfl⟩
    refine wr_setT 33 rfl ((canon_parts a b).symm) ?_
    refine wr_y rfl (y_pickT rfl rfl) ?_
    refine wr_y rfl (y_move rfl) ?_
    refine wr_yes rfl rfl ?_
    refine wr_a rfl (a_callF en22 rfl (Ct.quiet (fun w hw => known9_ct))) ?_
    rintro _ _ ⟨rfl, rfl⟩
    refine wr_y rfl (y_pickT rfl rfl) ?_
    refine wr_y rfl (y_assign rfl) ?_
    refine wr_nil ?_
    refine w_retR (R1 := []) (fun _ h => (h.selR (F := [_, _, _, _, _, _]) (F' := []) [] (by decide) rfl).left (X := [])) ?_
    refine ⟨_, rfl, ?_⟩
    rfl

end Go.Proofs.Ytdfcnalkdlifiaa
