/- Walks of Go functions, printed by a program of our own. -/
import Derived.Test.YtdfcnalkdlifiaaN3
import Derived.Test.YtdfcnalkdlifiaaE29
namespace Go.Proofs.Ytdfcnalkdlifiaa
open Go Go.Eng Go.Pure
set_option linter.unusedVariables false
/-! whorl/necklace.Canon -/
set_option maxRecDepth 100000 in
set_option maxHeartbeats 1000000 in
theorem canonN_ct {w : World} {A_ws : Option Addr} {n_ws c_ws : Nat} {vals_ws : List Value} {ws : List (List Int)} (h_ws : Rd w A_ws n_ws c_ws 1 vals_ws) (s_ws : SlW .u8 w vals_ws ws) (hN : (∀ w ∈ ws, w.length ≤ 8000) ∧ ws.length ≤ 100000) :
    Ct Try.prog 19 #[.slice A_ws n_ws c_ws] w.heap.size w [] (fun v R' => ∃ (A : Option Addr) (c : Nat) (vals : List Value) (Rs : List Row), v = .slice A vals.length c ∧ SlR .u8 Rs vals (canon ws) ∧ R' = ⟨22, 1, A, vals.length, c, vals, false⟩ :: Rs) := by
  obtain rfl : n_ws = ws.length := by have := h_ws.len; have := s_ws.1; omega
  refine fn1 Try.func19 rfl rfl rfl ?_
  have m_ws := h_ws.max
  refine w_seq ?_
  refine w_reg ?_
  refine wr_y rfl (y_assign rfl) ?_
  refine wr_nil ?_
  refine w_seq ?_
  refine w_reg ?_
  refine wr_sub (R1 := (⟨22, 1, none, 0, 0, [], false⟩ :: [])) (Sub.refl _) (fun _ h => h.nil 22 1) ?_
  refine wr_y rfl (y_assign rfl) ?_
  refine wr_nil ?_
  refine w_seq ?_
  refine w_seq ?_
  refine w_reg ?_
  refine wr_y rfl (y_move rfl) ?_
  refine wr_a rfl (a_callF en40 rfl (Ct.fresh (fun w hw => rings_ct ((h_ws.c _) w hw) (s_ws.c hw) (by first | assumption | omega | decide)))) ?_
  rintro _ _ ⟨_, rfl, A_1, c_2, l_3, Rs_4, rfl, hrg_5, hlr_6, rfl⟩
  refine wr_sub (R1 := (⟨57, 2, A_1, l_3.length, c_2, rgs l_3, false⟩ :: ⟨22, 1, none, 0, 0, [], false⟩ :: Rs_4)) (Sub.refl _) (fun _ h => Hp.toTail0 (X := [_]) (Y := [_]) h) ?_
  refine wr_y rfl (y_len Try.underlying54 rfl) ?_
  refine wr_y rfl (y_move rfl) ?_
  refine wr_nil ?_
  refine w_block ?_
  refine w_loop7 (fun (i : Int) (A1 : Option Addr) (n1 : Nat) (c1 : Nat) (vals : List Value) (ls : List (List Int)) (Rs : List Row) => [(3, .slice A1 n1 c1), (7, .slice A_1 l_3.length c_2), (8, .int .i64 ((l_3.length : Nat) : Int)), (9, .int .i64 i)]) (fun (i : Int) (A1 : Option Addr) (n1 : Nat) (c1 : Nat) (vals : List Value) (ls : List (List Int)) (Rs : List Row) => (⟨57, 2, A_1, l_3.length, c_2, rgs l_3, false⟩ :: ⟨22, 1, A1, n1, c1, vals, false⟩ :: Rs)) (fun (i : Int) (A1 : Option Addr) (n1 : Nat) (c1 : Nat) (vals : List Value) (ls : List (List Int)) (Rs : List Row) => (0 ≤ i) ∧ (i ≤ l_3.length) ∧ (n1 = vals.length) ∧ (SlR .u8 Rs vals ls) ∧ (RgR Rs l_3) ∧ (ls = (l_3.take i.toNat).map (fun r => rep r.root r.times))) (fun (i : Int) (A1 : Option Addr) (n1 : Nat) (c1 : Nat) (vals : List Value) (ls : List (List Int)) (Rs : List Row) => (l_3.length - i).toNat) ?_ ?_
  ·
    exact ⟨0, none, 0, 0, [], [], Rs_4, ⟨(by omega), (by omega), (rfl), (SlR.nilR _ _), (hrg_5), (rfl)⟩, (Sub.cons rfl (Sub.cons rfl (Sub.cons rfl (Sub.cons rfl Sub.nil)))), fun _ h => h⟩
  intro i A1 n1 c1 vals ls Rs ⟨hi0, hi1, hn1, hsl, hrg, hls⟩
  have hll := congrArg List.length hls
  rw [List.length_map, List.length_take] at hll
  have hsn := hsl.1
  have hro : 0 ≤ i → i < l_3.length → 0 < (rdG l_3 i).root.length ∧ 1 ≤ (rdG l_3 i).times ∧ (rdG l_3 i).times.toNat * (rdG l_3 i).root.length ≤ 8000 := fun h h' => ring_ok hlr_6 hN.1 (rdG_mem h h')
  have hfew : l_3.length ≤ ws.length := by have h1 := congrArg List.length hlr_6; rw [List.length_map, (ringS_perm ws).length_eq] at h1; have h2 := ringsOf_few ws; omega
  refine w_seq ?_
  refine w_reg ?_
  refine wr_y rfl (y_lt rfl rfl) ?_
  refine wr_nil ?_
  refine w_seq ?_
  refine w_if rfl (fun hc1 => ?_) (fun hc1 => ?_)
  ·
    have hro2 := hro hi0 (by omega)
    refine w_skip ?_
    refine w_seq ?_
    refine w_block ?_
    refine w_seq ?_
    refine w_reg ?_
    refine wr_y rfl (y_index Try.underlying54 sz57 rfl rfl (rdr 0 rfl) rfl (by omega) (by omega)) ?_
    have hr_8 := (hrg _ (rdG_mem (l := l_3) (i := i) (by omega) (by omega))).2
    refine wr_y rfl (y_ldR Try.underlying57 rfl sz57 rfl (rdr 0 rfl) (by omega) (by omega)) ?_
    refine wr_a rfl (a_alloc (sz := 2) zz57 rfl) ?_
    rintro _ _ ⟨g_10, rfl, rfl⟩
    refine wr_rows (R1 := (⟨57, 2, (some ⟨g_10, 0, none⟩), 1, 1, [.slice none 0 0, .int .i64 0], false⟩ :: ⟨57, 2, A_1, l_3.length, c_2, rgs l_3, false⟩ :: ⟨22, 1, A1, n1, c1, vals, false⟩ :: Rs)) rfl ?_
    refine wr_n (a_storeAll (vs := [.slice ((rdG l_3 i).A) ((rdG l_3 i).root.length) ((rdG l_3 i).c), .int .i64 ((rdG l_3 i).times)]) 0 rfl sz57 rfl rfl rfl (by intro v hv; simp at hv; rcases hv with rfl | rfl <;> rfl) rfl) ?_
    rintro _ _ rfl
    refine wr_rows (R1 := (⟨57, 2, (some ⟨g_10, 0, none⟩), 1, 1, [.slice ((rdG l_3 i).A) ((rdG l_3 i).root.length) ((rdG l_3 i).c), .int .i64 ((rdG l_3 i).times)], false⟩ :: ⟨57, 2, A_1, l_3.length, c_2, rgs l_3, false⟩ :: ⟨22, 1, A1, n1, c1, vals, false⟩ :: Rs)) rfl ?_
    refine wr_nil ?_
    refine w_reg ?_
    refine wr_y rfl (y_move rfl) ?_
    refine wr_y rfl (y_fieldAt (off := 0) (m := 0) Try.underlying57 rfl sz22 rfl rfl rfl) ?_
    refine wr_y rfl (y_ldIn (rdR 0 (r := ⟨57, 2, (some ⟨g_10, 0, none⟩), 1, 1, [.slice ((rdG l_3 i).A) ((rdG l_3 i).root.length) ((rdG l_3 i).c), .int .i64 ((rdG l_3 i).times)], false⟩) rfl) Try.underlying22 rfl rfl rfl) ?_
    refine wr_y rfl (y_fieldAt (off := 1) (m := 1) Try.underlying57 rfl sz3 rfl rfl rfl) ?_
    refine wr_y rfl (y_ldIn (rdR 0 (r := ⟨57, 2, (some ⟨g_10, 0, none⟩), 1, 1, [.slice ((rdG l_3 i).A) ((rdG l_3 i).root.length) ((rdG l_3 i).c), .int .i64 ((rdG l_3 i).times)], false⟩) rfl) Try.underlying3 rfl rfl rfl) ?_
    refine wr_a rfl (a_callF en41 rfl (Ct.fresh (fun w hw => repeatB_ct ((fun _ h => hr_8 _ _ _ (h.right (R' := [_, _, _]))) w hw) hro2.1 hro2.2.1 hro2.2.2))) ?_
    rintro _ _ ⟨_, rfl, A_11, c_12, rfl, rfl⟩
    refine wr_a rfl (a_lit [.slice A_11 ((rep ((rdG l_3 i).root) ((rdG l_3 i).times)).length) c_12] Try.underlying30 zs22 rfl rfl rfl rfl) ?_
    rintro _ _ ⟨g_14, rfl, rfl⟩
    refine wr_a rfl (a_append 4 rfl rfl Try.underlying30 zb22 rfl rfl rfl rfl rfl (rdr 0 rfl) (by simp [Value.oneCell']) (by dsimp only; omega)) ?_
    rintro _ _ ⟨A_15, c_16, rfl, rfl⟩
    refine wr_rows (R1 := (⟨22, 1, (some ⟨g_14, 0, none⟩), 1, 1, [.slice A_11 ((rep ((rdG l_3 i).root) ((rdG l_3 i).times)).length) c_12], false⟩ :: ⟨5, 1, A_11, (rep ((rdG l_3 i).root) ((rdG l_3 i).times)).length, c_12, ints .u8 (rep ((rdG l_3 i).root) ((rdG l_3 i).times)), true⟩ :: ⟨57, 2, (some ⟨g_10, 0, none⟩), 1, 1, [.slice ((rdG l_3 i).A) ((rdG l_3 i).root.length) ((rdG l_3 i).c), .int .i64 ((rdG l_3 i).times)], false⟩ :: ⟨57, 2, A_1, l_3.length, c_2, rgs l_3, false⟩ :: ⟨22, 1, A_15, (n1 + 1), c_16, vals ++ ([.slice A_11 ((rep ((rdG l_3 i).root) ((rdG l_3 i).times)).length) c_12]), false⟩ :: Rs)) rfl ?_
    refine wr_as (v := .slice A_15 (n1 + 1) c_16) rfl ?_
    refine wr_y rfl (y_assign rfl) ?_
    refine wr_nil ?_
    refine w_reg ?_
    refine wr_y rfl (y_addI rfl rfl (by omega)) ?_
    refine wr_y rfl (y_move rfl) ?_
    refine wr_nil ?_
    exact ⟨i + 1, A_15, n1 + 1, c_16, vals ++ ([.slice A_11 ((rep ((rdG l_3 i).root) ((rdG l_3 i).times)).length) c_12]), (ls ++ [rep (rdG l_3 i).root (rdG l_3 i).times]), (⟨5, 1, A_11, (rep ((rdG l_3 i).root) ((rdG l_3 i).times)).length, c_12, ints .u8 (rep ((rdG l_3 i).root) ((rdG l_3 i).times)), true⟩ :: Rs), ⟨(by omega), (by omega), (by rw [List.length_append, hn1]; rfl), (hsl.snoc rfl), (hrg.right [_]), (by rw [canon_step hi0 (by omega), ← hls])⟩, (by omega), (Sub.cons rfl (Sub.cons rfl (Sub.cons rfl (Sub.cons rfl Sub.nil)))), fun _ h => h.selR (F := [_, _, _, _, _]) (F' := [_, _, _]) [3, 4, 1] (by decide) rfl⟩
  ·
    refine w_exit ?_
    refine w_seq ?_
    refine w_reg ?_
    refine wr_y rfl (y_move rfl) ?_
    refine wr_y rfl (y_assign rfl) ?_
    refine wr_nil ?_
    obtain rfl : ls = canon ws := by rw [hls]; exact canon_done hlr_6 (by omega)
    refine w_retR (R1 := (⟨22, 1, A1, n1, c1, vals, false⟩ :: Rs)) (fun _ h => h.selR (F := [_, _]) (F' := [_]) [1] (by decide) rfl) ?_
    refine ⟨_, rfl, ?_⟩
    subst hn1
    exact ⟨_, _, vals, Rs, rfl, hsl, rfl⟩

theorem rt_step {β : Type} (f : RC → β) {lr : List RC} {i : Int} (h0 : 0 ≤ i) (h1 : i < lr.length) : (lr.take (i + 1).toNat).map f = (lr.take i.toNat).map f ++ [f (rdG lr i)] := by
  rw [show (i + 1).toNat = i.toNat + 1 by omega, List.take_add_one, List.getElem?_eq_getElem (by omega), List.map_append]
  unfold rdG
  rw [List.getD_eq_getElem?_getD, List.getElem?_eq_getElem (by omega)]
  rfl
theorem rt_done {lr : List RC} {ws : List (List Int)} {i : Int} (hl : lr.map RC.rt = ringS ws) (hi : (lr.length : Int) ≤ i) : (lr.take i.toNat).map RC.root = (ringS ws).map Prod.fst ∧ (lr.take i.toNat).map RC.times = (ringS ws).map Prod.snd := by
  rw [List.take_of_length_le (by omega), ← hl, List.map_map, List.map_map]
  exact ⟨rfl, rfl⟩
/-! whorl/necklace.Roots -/
set_option maxRecDepth 100000 in
set_option maxHeartbeats 1500000 in
theorem rootsN_ct {w : World} {A_ws : Option Addr} {n_ws c_ws : Nat} {vals_ws : List Value} {ws : List (List Int)} (h_ws : Rd w A_ws n_ws c_ws 1 vals_ws) (s_ws : SlW .u8 w vals_ws ws) (hN : (∀ w ∈ ws, w.length ≤ 8000) ∧ ws.length ≤ 100000) :
    Ct Try.prog 23 #[.slice A_ws n_ws c_ws] w.heap.size w [] (fun v R' => ∃ (A : Option Addr) (c : Nat) (A2 : Option Addr) (c2 : Nat) (vals : List Value) (Rs : List Row), v = .tuple #[.slice A vals.length c, .slice A2 ((ringS ws).map Prod.snd).length c2] ∧ SlR .u8 Rs vals ((ringS ws).map Prod.fst) ∧ R' = ⟨22, 1, A, vals.length, c, vals, false⟩ :: ⟨3, 1, A2, ((ringS ws).map Prod.snd).length, c2, ints .i64 ((ringS ws).map Prod.snd), false⟩ :: Rs) := by
  obtain rfl : n_ws = ws.length := by have := h_ws.len; have := s_ws.1; omega
  refine fn2 Try.func23 rfl rfl rfl ?_
  have m_ws := h_ws.max
  refine w_seq ?_
  refine w_reg ?_
  refine wr_sub (R1 := (⟨22, 1, none, 0, 0, [], false⟩ :: [])) (Sub.refl _) (fun _ h => h.nil 22 1) ?_
  refine wr_y rfl (y_assign rfl) ?_
  refine wr_sub (R1 := (⟨3, 1, none, 0, 0, ints .i64 ([]), false⟩ :: ⟨22, 1, none, 0, 0, [], false⟩ :: [])) (Sub.refl _) (fun _ h => h.nil 3 1) ?_
  refine wr_y rfl (y_assign rfl) ?_
  refine wr_nil ?_
  refine w_seq ?_
  refine w_seq ?_
  refine w_reg ?_
  refine wr_y rfl (y_move rfl) ?_
  refine wr_a rfl (a_callF en40 rfl (Ct.fresh (fun w hw => rings_ct ((h_ws.c _) w hw) (s_ws.c hw) (by first | assumption | omega | decide)))) ?_
  rintro _ _ ⟨_, rfl, A_1, c_2, l_3, Rs_4, rfl, hrg_5, hlr_6, rfl⟩
  refine wr_sub (R1 := (⟨57, 2, A_1, l_3.length, c_2, rgs l_3, false⟩ :: ⟨3, 1, none, 0, 0, ints .i64 ([]), false⟩ :: ⟨22, 1, none, 0, 0, [], false⟩ :: Rs_4)) (Sub.refl _) (fun _ h => Hp.toTail0 (X := [_]) (Y := [_, _]) h) ?_
  refine wr_y rfl (y_len Try.underlying54 rfl) ?_
  refine wr_y rfl (y_move rfl) ?_
  refine wr_nil ?_
  refine w_block ?_
  refine w_loop10 (fun (i : Int) (A1 : Option Addr) (n1 : Nat) (c1 : Nat) (vals : List Value) (ls : List (List Int)) (A2 : Option Addr) (n2 : Nat) (c2 : Nat) (ts : List Int) => [(2, .slice A1 n1 c1), (3, .slice A2 n2 c2), (7, .slice A_1 l_3.length c_2), (8, .int .i64 ((l_3.length : Nat) : Int)), (9, .int .i64 i)]) (fun (i : Int) (A1 : Option Addr) (n1 : Nat) (c1 : Nat) (vals : List Value) (ls : List (List Int)) (A2 : Option Addr) (n2 : Nat) (c2 : Nat) (ts : List Int) => (⟨57, 2, A_1, l_3.length, c_2, rgs l_3, false⟩ :: ⟨3, 1, A2, n2, c2, ints .i64 ts, false⟩ :: ⟨22, 1, A1, n1, c1, vals, false⟩ :: Rs_4)) (fun (i : Int) (A1 : Option Addr) (n1 : Nat) (c1 : Nat) (vals : List Value) (ls : List (List Int)) (A2 : Option Addr) (n2 : Nat) (c2 : Nat) (ts : List Int) => (0 ≤ i) ∧ (i ≤ l_3.length) ∧ (n1 = vals.length) ∧ (n2 = ts.length) ∧ (SlR .u8 Rs_4 vals ls) ∧ (ls = (l_3.take i.toNat).map RC.root) ∧ (ts = (l_3.take i.toNat).map RC.times)) (fun (i : Int) (A1 : Option Addr) (n1 : Nat) (c1 : Nat) (vals : List Value) (ls : List (List Int)) (A2 : Option Addr) (n2 : Nat) (c2 : Nat) (ts : List Int) => (l_3.length - i).toNat) ?_ ?_
  ·
    exact ⟨0, none, 0, 0, [], [], none, 0, 0, [], ⟨(by omega), (by omega), (rfl), (rfl), (SlR.nilR _ _), (rfl), (rfl)⟩, (Sub.cons rfl (Sub.cons rfl (Sub.cons rfl (Sub.cons rfl (Sub.cons rfl Sub.nil))))), fun _ h => h⟩
  intro i A1 n1 c1 vals ls A2 n2 c2 ts ⟨hi0, hi1, hn1, hn2, hsl, hls, hts⟩
  have hll := congrArg List.length hls
  rw [List.length_map, List.length_take] at hll
  have hlt := congrArg List.length hts
  rw [List.length_map, List.length_take] at hlt
  have hsn := hsl.1
  have hfew : l_3.length ≤ ws.length := by have h1 := congrArg List.length hlr_6; rw [List.length_map, (ringS_perm ws).length_eq] at h1; have h2 := ringsOf_few ws; omega
  refine w_seq ?_
  refine w_reg ?_
  refine wr_y rfl (y_lt rfl rfl) ?_
  refine wr_nil ?_
  refine w_seq ?_
  refine w_if rfl (fun hc1 => ?_) (fun hc1 => ?_)
  ·
    refine w_skip ?_
    refine w_seq ?_
    refine w_block ?_
    refine w_seq ?_
    refine w_reg ?_
    refine wr_y rfl (y_index Try.underlying54 sz57 rfl rfl (rdr 0 rfl) rfl (by omega) (by omega)) ?_
    have hr_8 := (hrg_5 _ (rdG_mem (l := l_3) (i := i) (by omega) (by omega))).2
    refine wr_y rfl (y_ldR Try.underlying57 rfl sz57 rfl (rdr 0 rfl) (by omega) (by omega)) ?_
    refine wr_a rfl (a_alloc (sz := 2) zz57 rfl) ?_
    rintro _ _ ⟨g_10, rfl, rfl⟩
    refine wr_rows (R1 := (⟨57, 2, (some ⟨g_10, 0, none⟩), 1, 1, [.slice none 0 0, .int .i64 0], false⟩ :: ⟨57, 2, A_1, l_3.length, c_2, rgs l_3, false⟩ :: ⟨3, 1, A2, n2, c2, ints .i64 ts, false⟩ :: ⟨22, 1, A1, n1, c1, vals, false⟩ :: Rs_4)) rfl ?_
    refine wr_n (a_storeAll (vs := [.slice ((rdG l_3 i).A) ((rdG l_3 i).root.length) ((rdG l_3 i).c), .int .i64 ((rdG l_3 i).times)]) 0 rfl sz57 rfl rfl rfl (by intro v hv; simp at hv; rcases hv with rfl | rfl <;> rfl) rfl) ?_
    rintro _ _ rfl
    refine wr_rows (R1 := (⟨57, 2, (some ⟨g_10, 0, none⟩), 1, 1, [.slice ((rdG l_3 i).A) ((rdG l_3 i).root.length) ((rdG l_3 i).c), .int .i64 ((rdG l_3 i).times)], false⟩ :: ⟨57, 2, A_1, l_3.length, c_2, rgs l_3, false⟩ :: ⟨3, 1, A2, n2, c2, ints .i64 ts, false⟩ :: ⟨22, 1, A1, n1, c1, vals, false⟩ :: Rs_4)) rfl ?_
    refine wr_nil ?_
    refine w_regdc (Rc := (⟨57, 2, (some ⟨g_10, 0, none⟩), 1, 1, [.slice ((rdG l_3 i).A) ((rdG l_3 i).root.length) ((rdG l_3 i).c), .int .i64 ((rdG l_3 i).times)], false⟩ :: Rs_4)) mixed (fun _ h => h.selR (F := [_, _, _, _]) (F' := [_]) [0] (by decide) rfl) ?_
    refine cd_y 0 rfl (by kernel_rfl) rfl (y_move rfl) ?_
    refine cd_y 1 rfl (by kernel_rfl) rfl (y_fieldAt (off := 0) (m := 0) Try.underlying57 rfl sz22 rfl rfl rfl) ?_
    refine cd_y 2 rfl (by kernel_rfl) rfl (y_ldIn (rdR 0 (r := ⟨57, 2, (some ⟨g_10, 0, none⟩), 1, 1, [.slice ((rdG l_3 i).A) ((rdG l_3 i).root.length) ((rdG l_3 i).c), .int .i64 ((rdG l_3 i).times)], false⟩) rfl) Try.underlying22 rfl rfl rfl) ?_
    refine cd_y 5 rfl (by kernel_rfl) rfl (y_move rfl) ?_
    refine cd_y 6 rfl (by kernel_rfl) rfl (y_fieldAt (off := 1) (m := 1) Try.underlying57 rfl sz3 rfl rfl rfl) ?_
    refine cd_y 7 rfl (by kernel_rfl) rfl (y_ldIn (rdR 0 (r := ⟨57, 2, (some ⟨g_10, 0, none⟩), 1, 1, [.slice ((rdG l_3 i).A) ((rdG l_3 i).root.length) ((rdG l_3 i).c), .int .i64 ((rdG l_3 i).times)], false⟩) rfl) Try.underlying3 rfl rfl rfl) ?_
    refine cd_two 3 8 (by kernel_rfl) ?_ ?_
    ·
      refine c1_a 3 rfl rfl (a_lit [.slice ((rdG l_3 i).A) ((rdG l_3 i).root.length) ((rdG l_3 i).c)] Try.underlying30 zs22 rfl rfl rfl rfl) ?_
      rintro _ _ ⟨g_12, rfl, rfl⟩
      refine ⟨fun _ h => h.selR (F := [_, _, _, _, _]) (F' := [_]) [1] (by decide) rfl, ?_⟩
      refine cd_two 4 8 (by kernel_rfl) ?_ ?_
      ·
        refine c1_a 4 rfl rfl (a_append 4 rfl rfl Try.underlying30 zb22 rfl rfl rfl rfl rfl (rdr 0 rfl) (by simp [Value.oneCell']) (by dsimp only; omega)) ?_
        rintro _ _ ⟨A_13, c_14, rfl, rfl⟩
        refine ⟨fun _ h => h.selR (F := [_, _, _, _, _]) (F' := [_]) [1] (by decide) rfl, ?_⟩
        refine cd_rows (R1 := (⟨22, 1, (some ⟨g_12, 0, none⟩), 1, 1, [.slice ((rdG l_3 i).A) ((rdG l_3 i).root.length) ((rdG l_3 i).c)], false⟩ :: ⟨57, 2, (some ⟨g_10, 0, none⟩), 1, 1, [.slice ((rdG l_3 i).A) ((rdG l_3 i).root.length) ((rdG l_3 i).c), .int .i64 ((rdG l_3 i).times)], false⟩ :: ⟨57, 2, A_1, l_3.length, c_2, rgs l_3, false⟩ :: ⟨3, 1, A2, n2, c2, ints .i64 ts, false⟩ :: ⟨22, 1, A_13, (n1 + 1), c_14, vals ++ ([.slice ((rdG l_3 i).A) ((rdG l_3 i).root.length) ((rdG l_3 i).c)]), false⟩ :: Rs_4)) rfl ?_
        refine cd_as (v := .slice A_13 (n1 + 1) c_14) rfl ?_
        refine cd_one 8 (by kernel_rfl) ?_
        refine c1_a 8 rfl rfl (a_litI .i64 [(rdG l_3 i).times] Try.underlying35 zs3 rfl rfl rfl) ?_
        rintro _ _ ⟨g_16, rfl, rfl⟩
        refine ⟨fun _ h => h.selR (F := [_, _, _, _, _, _]) (F' := [_]) [2] (by decide) rfl, ?_⟩
        refine cd_one 9 (by kernel_rfl) ?_
        refine c1_a 9 rfl rfl (a_appendI 4 rfl Try.underlying35 zb3 rfl rfl rfl (rdr 0 rfl) (by omega)) ?_
        rintro _ _ ⟨A_17, c_18, rfl, rfl⟩
        refine ⟨fun _ h => h.selR (F := [_, _, _, _, _, _]) (F' := [_]) [2] (by decide) rfl, ?_⟩
        refine cd_rows (R1 := (⟨3, 1, (some ⟨g_16, 0, none⟩), 1, 1, ints .i64 ([(rdG l_3 i).times]), false⟩ :: ⟨22, 1, (some ⟨g_12, 0, none⟩), 1, 1, [.slice ((rdG l_3 i).A) ((rdG l_3 i).root.length) ((rdG l_3 i).c)], false⟩ :: ⟨57, 2, (some ⟨g_10, 0, none⟩), 1, 1, [.slice ((rdG l_3 i).A) ((rdG l_3 i).root.length) ((rdG l_3 i).c), .int .i64 ((rdG l_3 i).times)], false⟩ :: ⟨57, 2, A_1, l_3.length, c_2, rgs l_3, false⟩ :: ⟨3, 1, A_17, (n2 + 1), c_18, ints .i64 (ts ++ ([(rdG l_3 i).times])), false⟩ :: ⟨22, 1, A_13, (n1 + 1), c_14, vals ++ ([.slice ((rdG l_3 i).A) ((rdG l_3 i).root.length) ((rdG l_3 i).c)]), false⟩ :: Rs_4)) rfl ?_
        refine cd_as (v := .slice A_17 (n2 + 1) c_18) rfl ?_
        refine cd_y 10 rfl (by kernel_rfl) rfl (y_assign rfl) ?_
        refine cd_y 11 rfl (by kernel_rfl) rfl (y_assign rfl) ?_
        refine cd_nil (by kernel_rfl) ?_
        refine w_reg ?_
        refine wr_y rfl (y_addI rfl rfl (by omega)) ?_
        refine wr_y rfl (y_move rfl) ?_
        refine wr_nil ?_
        exact ⟨i + 1, A_13, n1 + 1, c_14, vals ++ ([.slice ((rdG l_3 i).A) ((rdG l_3 i).root.length) ((rdG l_3 i).c)]), (ls ++ [(rdG l_3 i).root]), A_17, n2 + 1, c_18, ts ++ ([(rdG l_3 i).times]), ⟨(by omega), (by omega), (by rw [List.length_append, hn1]; rfl), (by rw [List.length_append, hn2]; rfl), (hsl.push rfl (hrg_5 _ (rdG_mem hi0 (by omega))).2), (by rw [rt_step RC.root hi0 (by omega), ← hls]), (by rw [rt_step RC.times hi0 (by omega), ← hts])⟩, (by omega), (Sub.cons rfl (Sub.cons rfl (Sub.cons rfl (Sub.cons rfl (Sub.cons rfl Sub.nil))))), fun _ h => h.selR (F := [_, _, _, _, _, _]) (F' := [_, _, _]) [3, 4, 5] (by decide) rfl⟩
      ·
        refine c1_a 8 rfl rfl (a_litI .i64 [(rdG l_3 i).times] Try.underlying35 zs3 rfl rfl rfl) ?_
        rintro _ _ ⟨g_20, rfl, rfl⟩
        refine ⟨fun _ h => h.selR (F := [_, _, _, _, _, _]) (F' := [_]) [2] (by decide) rfl, ?_⟩
        refine cd_one 4 (by kernel_rfl) ?_
        refine c1_a 4 rfl rfl (a_append 5 rfl rfl Try.underlying30 zb22 rfl rfl rfl rfl rfl (rdr 1 rfl) (by simp [Value.oneCell']) (by dsimp only; omega)) ?_
        rintro _ _ ⟨A_21, c_22, rfl, rfl⟩
        refine ⟨fun _ h => h.selR (F := [_, _, _, _, _, _]) (F' := [_]) [2] (by decide) rfl, ?_⟩
        refine cd_rows (R1 := (⟨3, 1, (some ⟨g_20, 0, none⟩), 1, 1, ints .i64 ([(rdG l_3 i).times]), false⟩ :: ⟨22, 1, (some ⟨g_12, 0, none⟩), 1, 1, [.slice ((rdG l_3 i).A) ((rdG l_3 i).root.length) ((rdG l_3 i).c)], false⟩ :: ⟨57, 2, (some ⟨g_10, 0, none⟩), 1, 1, [.slice ((rdG l_3 i).A) ((rdG l_3 i).root.length) ((rdG l_3 i).c), .int .i64 ((rdG l_3 i).times)], false⟩ :: ⟨57, 2, A_1, l_3.length, c_2, rgs l_3, false⟩ :: ⟨3, 1, A2, n2, c2, ints .i64 ts, false⟩ :: ⟨22, 1, A_21, (n1 + 1), c_22, vals ++ ([.slice ((rdG l_3 i).A) ((rdG l_3 i).root.length) ((rdG l_3 i).c)]), false⟩ :: Rs_4)) rfl ?_
        refine cd_as (v := .slice A_21 (n1 + 1) c_22) rfl ?_
        refine cd_one 9 (by kernel_rfl) ?_
        refine c1_a 9 rfl rfl (a_appendI 4 rfl Try.underlying35 zb3 rfl rfl rfl (rdr 0 rfl) (by omega)) ?_
        rintro _ _ ⟨A_23, c_24, rfl, rfl⟩
        refine ⟨fun _ h => h.selR (F := [_, _, _, _, _, _]) (F' := [_]) [2] (by decide) rfl, ?_⟩
        refine cd_rows (R1 := (⟨3, 1, (some ⟨g_20, 0, none⟩), 1, 1, ints .i64 ([(rdG l_3 i).times]), false⟩ :: ⟨22, 1, (some ⟨g_12, 0, none⟩), 1, 1, [.slice ((rdG l_3 i).A) ((rdG l_3 i).root.length) ((rdG l_3 i).c)], false⟩ :: ⟨57, 2, (some ⟨g_10, 0, none⟩), 1, 1, [.slice ((rdG l_3 i).A) ((rdG l_3 i).root.length) ((rdG l_3 i).c), .int .i64 ((rdG l_3 i).times)], false⟩ :: ⟨57, 2, A_1, l_3.length, c_2, rgs l_3, false⟩ :: ⟨3, 1, A_23, (n2 + 1), c_24, ints .i64 (ts ++ ([(rdG l_3 i).times])), false⟩ :: ⟨22, 1, A_21, (n1 + 1), c_22, vals ++ ([.slice ((rdG l_3 i).A) ((rdG l_3 i).root.length) ((rdG l_3 i).c)]), false⟩ :: Rs_4)) rfl ?_
        refine cd_as (v := .slice A_23 (n2 + 1) c_24) rfl ?_
        refine cd_y 10 rfl (by kernel_rfl) rfl (y_assign rfl) ?_
        refine cd_y 11 rfl (by kernel_rfl) rfl (y_assign rfl) ?_
        refine cd_nil (by kernel_rfl) ?_
        refine w_reg ?_
        refine wr_y rfl (y_addI rfl rfl (by omega)) ?_
        refine wr_y rfl (y_move rfl) ?_
        refine wr_nil ?_
        exact ⟨i + 1, A_21, n1 + 1, c_22, vals ++ ([.slice ((rdG l_3 i).A) ((rdG l_3 i).root.length) ((rdG l_3 i).c)]), (ls ++ [(rdG l_3 i).root]), A_23, n2 + 1, c_24, ts ++ ([(rdG l_3 i).times]), ⟨(by omega), (by omega), (by rw [List.length_append, hn1]; rfl), (by rw [List.length_append, hn2]; rfl), (hsl.push rfl (hrg_5 _ (rdG_mem hi0 (by omega))).2), (by rw [rt_step RC.root hi0 (by omega), ← hls]), (by rw [rt_step RC.times hi0 (by omega), ← hts])⟩, (by omega), (Sub.cons rfl (Sub.cons rfl (Sub.cons rfl (Sub.cons rfl (Sub.cons rfl Sub.nil))))), fun _ h => h.selR (F := [_, _, _, _, _, _]) (F' := [_, _, _]) [3, 4, 5] (by decide) rfl⟩
    ·
      refine c1_a 8 rfl rfl (a_litI .i64 [(rdG l_3 i).times] Try.underlying35 zs3 rfl rfl rfl) ?_
      rintro _ _ ⟨g_26, rfl, rfl⟩
      refine ⟨fun _ h => h.selR (F := [_, _, _, _, _]) (F' := [_]) [1] (by decide) rfl, ?_⟩
      refine cd_one 3 (by kernel_rfl) ?_
      refine c1_a 3 rfl rfl (a_lit [.slice ((rdG l_3 i).A) ((rdG l_3 i).root.length) ((rdG l_3 i).c)] Try.underlying30 zs22 rfl rfl rfl rfl) ?_
      rintro _ _ ⟨g_28, rfl, rfl⟩
      refine ⟨fun _ h => h.selR (F := [_, _, _, _, _, _]) (F' := [_]) [2] (by decide) rfl, ?_⟩
      refine cd_one 4 (by kernel_rfl) ?_
      refine c1_a 4 rfl rfl (a_append 5 rfl rfl Try.underlying30 zb22 rfl rfl rfl rfl rfl (rdr 0 rfl) (by simp [Value.oneCell']) (by dsimp only; omega)) ?_
      rintro _ _ ⟨A_29, c_30, rfl, rfl⟩
      refine ⟨fun _ h => h.selR (F := [_, _, _, _, _, _]) (F' := [_]) [2] (by decide) rfl, ?_⟩
      refine cd_rows (R1 := (⟨22, 1, (some ⟨g_28, 0, none⟩), 1, 1, [.slice ((rdG l_3 i).A) ((rdG l_3 i).root.length) ((rdG l_3 i).c)], false⟩ :: ⟨3, 1, (some ⟨g_26, 0, none⟩), 1, 1, ints .i64 ([(rdG l_3 i).times]), false⟩ :: ⟨57, 2, (some ⟨g_10, 0, none⟩), 1, 1, [.slice ((rdG l_3 i).A) ((rdG l_3 i).root.length) ((rdG l_3 i).c), .int .i64 ((rdG l_3 i).times)], false⟩ :: ⟨57, 2, A_1, l_3.length, c_2, rgs l_3, false⟩ :: ⟨3, 1, A2, n2, c2, ints .i64 ts, false⟩ :: ⟨22, 1, A_29, (n1 + 1), c_30, vals ++ ([.slice ((rdG l_3 i).A) ((rdG l_3 i).root.length) ((rdG l_3 i).c)]), false⟩ :: Rs_4)) rfl ?_
      refine cd_as (v := .slice A_29 (n1 + 1) c_30) rfl ?_
      refine cd_one 9 (by kernel_rfl) ?_
      refine c1_a 9 rfl rfl (a_appendI 4 rfl Try.underlying35 zb3 rfl rfl rfl (rdr 1 rfl) (by omega)) ?_
      rintro _ _ ⟨A_31, c_32, rfl, rfl⟩
      refine ⟨fun _ h => h.selR (F := [_, _, _, _, _, _]) (F' := [_]) [2] (by decide) rfl, ?_⟩
      refine cd_rows (R1 := (⟨22, 1, (some ⟨g_28, 0, none⟩), 1, 1, [.slice ((rdG l_3 i).A) ((rdG l_3 i).root.length) ((rdG l_3 i).c)], false⟩ :: ⟨3, 1, (some ⟨g_26, 0, none⟩), 1, 1, ints .i64 ([(rdG l_3 i).times]), false⟩ :: ⟨57, 2, (some ⟨g_10, 0, none⟩), 1, 1, [.slice ((rdG l_3 i).A) ((rdG l_3 i).root.length) ((rdG l_3 i).c), .int .i64 ((rdG l_3 i).times)], false⟩ :: ⟨57, 2, A_1, l_3.length, c_2, rgs l_3, false⟩ :: ⟨3, 1, A_31, (n2 + 1), c_32, ints .i64 (ts ++ ([(rdG l_3 i).times])), false⟩ :: ⟨22, 1, A_29, (n1 + 1), c_30, vals ++ ([.slice ((rdG l_3 i).A) ((rdG l_3 i).root.length) ((rdG l_3 i).c)]), false⟩ :: Rs_4)) rfl ?_
      refine cd_as (v := .slice A_31 (n2 + 1) c_32) rfl ?_
      refine cd_y 10 rfl (by kernel_rfl) rfl (y_assign rfl) ?_
      refine cd_y 11 rfl (by kernel_rfl) rfl (y_assign rfl) ?_
      refine cd_nil (by kernel_rfl) ?_
      refine w_reg ?_
      refine wr_y rfl (y_addI rfl rfl (by omega)) ?_
      refine wr_y rfl (y_move rfl) ?_
      refine wr_nil ?_
      exact ⟨i + 1, A_29, n1 + 1, c_30, vals ++ ([.slice ((rdG l_3 i).A) ((rdG l_3 i).root.length) ((rdG l_3 i).c)]), (ls ++ [(rdG l_3 i).root]), A_31, n2 + 1, c_32, ts ++ ([(rdG l_3 i).times]), ⟨(by omega), (by omega), (by rw [List.length_append, hn1]; rfl), (by rw [List.length_append, hn2]; rfl), (hsl.push rfl (hrg_5 _ (rdG_mem hi0 (by omega))).2), (by rw [rt_step RC.root hi0 (by omega), ← hls]), (by rw [rt_step RC.times hi0 (by omega), ← hts])⟩, (by omega), (Sub.cons rfl (Sub.cons rfl (Sub.cons rfl (Sub.cons rfl (Sub.cons rfl Sub.nil))))), fun _ h => h.selR (F := [_, _, _, _, _, _]) (F' := [_, _, _]) [3, 4, 5] (by decide) rfl⟩
  ·
    refine w_exit ?_
    refine w_seq ?_
    refine w_reg ?_
    refine wr_y rfl (y_move rfl) ?_
    refine wr_y rfl (y_move rfl) ?_
    refine wr_y rfl (y_assign rfl) ?_
    refine wr_y rfl (y_assign rfl) ?_
    refine wr_nil ?_
    refine w_retR (R1 := (⟨22, 1, A1, n1, c1, vals, false⟩ :: ⟨3, 1, A2, n2, c2, ints .i64 ts, false⟩ :: Rs_4)) (fun _ h => h.selR (F := [_, _, _]) (F' := [_, _]) [2, 1] (by decide) rfl) ?_
    refine ⟨_, _, rfl, rfl, ?_⟩
    have hrd := rt_done hlr_6 (show (l_3.length : Int) ≤ i by omega)
    obtain rfl : ls = (ringS ws).map Prod.fst := hls.trans hrd.1
    obtain rfl : ts = (ringS ws).map Prod.snd := hts.trans hrd.2
    subst hn1; subst hn2
    exact ⟨_, _, _, _, vals, _, rfl, hsl, rfl⟩

/-! bytes.Equal -/
set_option maxRecDepth 100000 in
theorem equalB_ct {w : World} {A_u : Option Addr} {n_u c_u : Nat} {u : List Int} {A_t : Option Addr} {n_t c_t : Nat} {t : List Int} (h_u : Rd w A_u n_u c_u 1 (ints .u8 u)) (h_t : Rd w A_t n_t c_t 1 (ints .u8 t)) (bh_u : ByteL u) (bh_t : ByteL t) :
    Ct Try.prog 56 #[.slice A_u n_u c_u, .slice A_t n_t c_t] w.heap.size w [] (fun v R' => v = .bool (decide (u = t))) := by
  obtain rfl := h_u.lenI
  obtain rfl := h_t.lenI
  refine fn1 Try.func56 rfl rfl rfl ?_
  have m_u := h_u.max
  have m_t := h_t.max
  refine w_seq ?_
  refine w_reg ?_
  refine wr_y rfl (y_assign rfl) ?_
  refine wr_nil ?_
  refine w_seq ?_
  refine w_reg ?_
  refine wr_y rfl (y_move rfl) ?_
  refine wr_y rfl (y_toStr Try.underlying22 Try.underlying5 Try.underlying9 rfl (h_u.c _)) ?_
  refine wr_y rfl (y_move rfl) ?_
  refine wr_y rfl (y_toStr Try.underlying22 Try.underlying5 Try.underlying9 rfl (h_t.c _)) ?_
  refine wr_y rfl (y_eqL rfl rfl bh_u bh_t) ?_
  refine wr_y rfl (y_assign rfl) ?_
  refine wr_nil ?_
  refine w_ret ?_
  refine ⟨_, rfl, ?_⟩
  rfl

/-! slices.EqualFunc[[][]byte,[][]byte,[]byte,[]byte] -/
set_option maxRecDepth 100000 in
set_option maxHeartbeats 600000 in
theorem equalFn_ct {w : World} {A_a : Option Addr} {n_a c_a : Nat} {vals_a : List Value} {a : List (List Int)} {A_b : Option Addr} {n_b c_b : Nat} {vals_b : List Value} {b : List (List Int)} (h_a : Rd w A_a n_a c_a 1 vals_a) (s_a : SlW .u8 w vals_a a) (h_b : Rd w A_b n_b c_b 1 vals_b) (s_b : SlW .u8 w vals_b b) (hN : a.length ≤ 1000000) :
    Ct Try.prog 55 #[.slice A_a n_a c_a, .slice A_b n_b c_b, .func (.func 56) #[] #[]] w.heap.size w [] (fun v R' => v = .bool (decide (a = b))) := by
  obtain rfl : n_a = a.length := by have := h_a.len; have := s_a.1; omega
  obtain rfl : n_b = b.length := by have := h_b.len; have := s_b.1; omega
  refine fn1 Try.func55 rfl rfl rfl ?_
  have m_a := h_a.max
  have m_b := h_b.max
  refine w_seq ?_
  refine w_reg ?_
  refine wr_y rfl (y_assign rfl) ?_
  refine wr_nil ?_
  refine w_seq ?_
  refine w_seq ?_
  refine w_reg ?_
  refine wr_y rfl (y_move rfl) ?_
  refine wr_y rfl (y_len Try.underlying30 rfl) ?_
  refine wr_y rfl (y_move rfl) ?_
  refine wr_y rfl (y_len Try.underlying30 rfl) ?_
  refine wr_y rfl (y_ne rfl rfl) ?_
  refine wr_nil ?_
  refine w_if rfl (fun hc1 => ?_) (fun hc1 => ?_)
  ·
    refine w_seq ?_
    refine w_reg ?_
    refine wr_y rfl (y_assign rfl) ?_
    refine wr_nil ?_
    refine w_ret ?_
    refine ⟨_, rfl, ?_⟩
    exact congrArg Value.bool (decide_eq_false (fun e => by rw [e] at hc1; exact hc1 rfl)).symm
  ·
    refine w_skip ?_
    refine w_seq ?_
    refine w_seq ?_
    refine w_reg ?_
    refine wr_y rfl (y_move rfl) ?_
    refine wr_y rfl (y_len Try.underlying30 rfl) ?_
    refine wr_y rfl (y_move rfl) ?_
    refine wr_nil ?_
    refine w_block ?_
    refine w_loop1 (fun (k : Int) => [(1, .slice A_b b.length c_b), (2, .func (.func 56) #[] #[]), (15, .slice A_a a.length c_a), (16, .int .i64 ((a.length : Nat) : Int)), (17, .int .i64 k)]) (fun (k : Int) => []) (fun (k : Int) => (0 ≤ k) ∧ (k ≤ a.length) ∧ (a.take k.toNat = b.take k.toNat)) (fun (k : Int) => (a.length - k).toNat) ?_ ?_
    ·
      exact ⟨0, ⟨(by omega), (by omega), (rfl)⟩, (Sub.cons rfl (Sub.cons rfl (Sub.cons rfl (Sub.cons rfl (Sub.cons rfl Sub.nil))))), fun _ h => h⟩
    intro k ⟨hk0, hk1, hq⟩
    refine w_seq ?_
    refine w_reg ?_
    refine wr_y rfl (y_lt rfl rfl) ?_
    refine wr_nil ?_
    refine w_seq ?_
    refine w_if rfl (fun hc2 => ?_) (fun hc2 => ?_)
    ·
      refine w_skip ?_
      refine w_seq ?_
      refine w_block ?_
      refine w_seq ?_
      refine w_reg ?_
      refine wr_y rfl (y_move rfl) ?_
      refine wr_y rfl (y_index1 Try.underlying30 sz22 rfl rfl (h_a.c _) (by omega) (by omega)) ?_
      refine s_a.elim (i := k) (by omega) (by omega) (fun A_1 c_2 hv_3 hr_4 hb_5 mhr_4 => ?_)
      refine wr_y rfl (y_ld Try.underlying22 rfl rfl rfl (h_a.c _) hv_3) ?_
      refine wr_y rfl (y_assign rfl) ?_
      refine wr_y rfl (y_assign rfl) ?_
      refine wr_nil ?_
      refine w_seq ?_
      refine w_reg ?_
      refine wr_y rfl (y_move rfl) ?_
      refine wr_y rfl (y_move rfl) ?_
      refine wr_y rfl (y_index1 Try.underlying30 sz22 rfl rfl (h_b.c _) (by omega) (by omega)) ?_
      refine s_b.elim (i := k) (by omega) (by omega) (fun A_6 c_7 hv_8 hr_9 hb_10 mhr_9 => ?_)
      refine wr_y rfl (y_ld Try.underlying22 rfl rfl rfl (h_b.c _) hv_8) ?_
      refine wr_y rfl (y_assign rfl) ?_
      refine wr_nil ?_
      refine w_seq ?_
      refine w_reg ?_
      refine wr_y rfl (y_move rfl) ?_
      refine wr_y rfl (y_move rfl) ?_
      refine wr_y rfl (y_move rfl) ?_
      refine wr_a rfl (a_call en56 rfl rfl (Ct.quiet (fun w hw => equalB_ct ((hr_4.c _) w hw) ((hr_9.c _) w hw) (byteL_wf hb_5) (byteL_wf hb_10)))) ?_
      rintro _ _ ⟨rfl, rfl⟩
      refine wr_y rfl (y_notD rfl) ?_
      refine wr_nil ?_
      refine w_if rfl (fun hc3 => ?_) (fun hc3 => ?_)
      ·
        refine w_seq ?_
        refine w_reg ?_
        refine wr_y rfl (y_assign rfl) ?_
        refine wr_nil ?_
        refine w_ret ?_
        refine ⟨_, rfl, ?_⟩
        exact congrArg Value.bool (decide_eq_false (fun e => by subst e; exact hc3 rfl)).symm
      ·
        refine w_skip ?_
        refine w_reg ?_
        refine wr_y rfl (y_addI rfl rfl (by omega)) ?_
        refine wr_y rfl (y_move rfl) ?_
        refine wr_nil ?_
        exact ⟨k + 1, ⟨(by omega), (by omega), (by rw [take_succ_rdl2 hk0 (by omega), take_succ_rdl2 hk0 (by omega), hq]; exact congrArg (fun z => List.take k.toNat b ++ [z]) (Decidable.not_not.1 (by assumption)))⟩, (by omega), (Sub.cons rfl (Sub.cons rfl (Sub.cons rfl (Sub.cons rfl (Sub.cons rfl Sub.nil))))), fun _ h => h⟩
    ·
      refine w_exit ?_
      refine w_seq ?_
      refine w_reg ?_
      refine wr_y rfl (y_assign rfl) ?_
      refine wr_nil ?_
      refine w_ret ?_
      refine ⟨_, rfl, ?_⟩
      exact congrArg Value.bool (decide_eq_true (by rw [List.take_of_length_le (by omega), List.take_of_length_le (by omega)] at hq; exact hq)).symm

/-! whorl/whorlref9.Rows -/
set_option maxRecDepth 100000 in
set_option maxHeartbeats 600000 in
theorem rows9_ct {w : World} {A_a : Option Addr} {n_a c_a : Nat} {vals_a : List Value} {a : List (List Int)} {A_b : Option Addr} {n_b c_b : Nat} {vals_b : List Value} {b : List (List Int)} (h_a : Rd w A_a n_a c_a 1 vals_a) (s_a : SlW .u8 w vals_a a) (h_b : Rd w A_b n_b c_b 1 vals_b) (s_b : SlW .u8 w vals_b b) (hN : a.length ≤ 1000000) :
    Ct Try.prog 21 #[.slice A_a n_a c_a, .slice A_b n_b c_b] w.heap.size w [] (fun v R' => v = .bool (decide (a = b))) := by
  obtain rfl : n_a = a.length := by have := h_a.len; have := s_a.1; omega
  obtain rfl : n_b = b.length := by have := h_b.len; have := s_b.1; omega
  refine fn1 Try.func21 rfl rfl rfl ?_
  have m_a := h_a.max
  have m_b := h_b.max
  refine w_seq ?_
  refine w_reg ?_
  refine wr_y rfl (y_assign rfl) ?_
  refine wr_nil ?_
  refine w_seq ?_
  refine w_seq ?_
  refine w_reg ?_
  refine wr_y rfl (y_move rfl) ?_
  refine wr_y rfl (y_len Try.underlying30 rfl) ?_
  refine wr_y rfl (y_move rfl) ?_
  refine wr_y rfl (y_len Try.underlying30 rfl) ?_
  refine wr_y rfl (y_ne rfl rfl) ?_
  refine wr_nil ?_
  refine w_if rfl (fun hc1 => ?_) (fun hc1 => ?_)
  ·
    refine w_seq ?_
    refine w_reg ?_
    refine wr_y rfl (y_assign rfl) ?_
    refine wr_nil ?_
    refine w_ret ?_
    refine ⟨_, rfl, ?_⟩
    exact congrArg Value.bool (decide_eq_false (fun e => by rw [e] at hc1; exact hc1 rfl)).symm
  ·
    refine w_skip ?_
    refine w_seq ?_
    refine w_seq ?_
    refine w_reg ?_
    refine wr_y rfl (y_assign rfl) ?_
    refine wr_nil ?_
    refine w_block ?_
    refine w_loop1 (fun (k : Int) => [(0, .slice A_a a.length c_a), (1, .slice A_b b.length c_b), (5, .int .i64 k)]) (fun (k : Int) => []) (fun (k : Int) => (0 ≤ k) ∧ (k ≤ a.length) ∧ (a.take k.toNat = b.take k.toNat)) (fun (k : Int) => (a.length - k).toNat) ?_ ?_
    ·
      exact ⟨0, ⟨(by omega), (by omega), (rfl)⟩, (Sub.cons rfl (Sub.cons rfl (Sub.cons rfl Sub.nil))), fun _ h => h⟩
    intro k ⟨hk0, hk1, hq⟩
    refine w_seq ?_
    refine w_seq ?_
    refine w_reg ?_
    refine wr_y rfl (y_move rfl) ?_
    refine wr_y rfl (y_move rfl) ?_
    refine wr_y rfl (y_len Try.underlying30 rfl) ?_
    refine wr_y rfl (y_lt rfl rfl) ?_
    refine wr_nil ?_
    refine w_if rfl (fun hc2 => ?_) (fun hc2 => ?_)
    ·
      refine w_skip ?_
      refine w_seq ?_
      refine w_block ?_
      refine w_seq ?_
      refine w_regd mixed ?_
      refine wd_y 0 rfl (by kernel_rfl) rfl (y_move rfl) ?_
      refine wd_y 1 rfl (by kernel_rfl) rfl (y_move rfl) ?_
      refine wd_y 2 rfl (by kernel_rfl) rfl (y_index1 Try.underlying30 sz22 rfl rfl (h_a.c _) (by omega) (by omega)) ?_
      refine s_a.elim (i := k) (by omega) (by omega) (fun A_1 c_2 hv_3 hr_4 hb_5 mhr_4 => ?_)
      refine wd_y 3 rfl (by kernel_rfl) rfl (y_ld Try.underlying22 rfl rfl rfl (h_a.c _) hv_3) ?_
      refine wd_y 4 rfl (by kernel_rfl) rfl (y_toStr Try.underlying22 Try.underlying5 Try.underlying9 rfl (hr_4.c _)) ?_
      refine wd_y 5 rfl (by kernel_rfl) rfl (y_move rfl) ?_
      refine wd_y 6 rfl (by kernel_rfl) rfl (y_move rfl) ?_
      refine wd_y 7 rfl (by kernel_rfl) rfl (y_index1 Try.underlying30 sz22 rfl rfl (h_b.c _) (by omega) (by omega)) ?_
      refine s_b.elim (i := k) (by omega) (by omega) (fun A_6 c_7 hv_8 hr_9 hb_10 mhr_9 => ?_)
      refine wd_y 8 rfl (by kernel_rfl) rfl (y_ld Try.underlying22 rfl rfl rfl (h_b.c _) hv_8) ?_
      refine wd_y 9 rfl (by kernel_rfl) rfl (y_toStr Try.underlying22 Try.underlying5 Try.underlying9 rfl (hr_9.c _)) ?_
      refine wd_y 10 rfl (by kernel_rfl) rfl (y_neL rfl rfl (byteL_wf hb_5) (byteL_wf hb_10)) ?_
      refine wd_nil (by kernel_rfl) ?_
      refine w_if rfl (fun hc3 => ?_) (fun hc3 => ?_)
      ·
        refine w_seq ?_
        refine w_reg ?_
        refine wr_y rfl (y_assign rfl) ?_
        refine wr_nil ?_
        refine w_ret ?_
        refine ⟨_, rfl, ?_⟩
        exact congrArg Value.bool (decide_eq_false (fun e => by subst e; exact hc3 rfl)).symm
      ·
        refine w_skip ?_
        refine w_reg ?_
        refine wr_y rfl (y_move rfl) ?_
        refine wr_y rfl (y_addI rfl rfl (by omega)) ?_
        refine wr_y rfl (y_assign rfl) ?_
        refine wr_nil ?_
        exact ⟨k + 1, ⟨(by omega), (by omega), (by rw [take_succ_rdl2 hk0 (by omega), take_succ_rdl2 hk0 (by omega), hq]; exact congrArg (fun z => List.take k.toNat b ++ [z]) (Decidable.not_not.1 (by assumption)))⟩, (by omega), (Sub.cons rfl (Sub.cons rfl (Sub.cons rfl Sub.nil))), fun _ h => h⟩
    ·
      refine w_exit ?_
      refine w_seq ?_
      refine w_reg ?_
      refine wr_y rfl (y_assign rfl) ?_
      refine wr_nil ?_
      refine w_ret ?_
      refine ⟨_, rfl, ?_⟩
      exact congrArg Value.bool (decide_eq_true (by rw [List.take_of_length_le (by omega), List.take_of_length_le (by omega)] at hq; exact hq)).symm

/-! whorl/necklace.Same -/
set_option maxRecDepth 100000 in
set_option maxHeartbeats 600000 in
theorem sameN_ct {w : World} {A_a : Option Addr} {n_a c_a : Nat} {vals_a : List Value} {a : List (List Int)} {A_b : Option Addr} {n_b c_b : Nat} {vals_b : List Value} {b : List (List Int)} (h_a : Rd w A_a n_a c_a 1 vals_a) (s_a : SlW .u8 w vals_a a) (h_b : Rd w A_b n_b c_b 1 vals_b) (s_b : SlW .u8 w vals_b b) (hNa : (∀ w ∈ a, w.length ≤ 8000) ∧ a.length ≤ 100000) (hNb : (∀ w ∈ b, w.length ≤ 8000) ∧ b.length ≤ 100000) :
    Ct Try.prog 33 #[.slice A_a n_a c_a, .slice A_b n_b c_b] w.heap.size w [] (fun v R' => v = .bool (decide (canon a = canon b))) := by
  obtain rfl : n_a = a.length := by have := h_a.len; have := s_a.1; omega
  obtain rfl : n_b = b.length := by have := h_b.len; have := s_b.1; omega
  refine fn1 Try.func33 rfl rfl rfl ?_
  have m_a := h_a.max
  have m_b := h_b.max
  refine w_seq ?_
  refine w_reg ?_
  refine wr_y rfl (y_assign rfl) ?_
  refine wr_nil ?_
  refine w_seq ?_
  refine w_reg ?_
  refine wr_y rfl (y_move rfl) ?_
  refine wr_a rfl (a_callF en19 rfl (Ct.fresh (fun w hw => canonN_ct ((h_a.c _) w hw) (s_a.c hw) hNa))) ?_
  rintro _ _ ⟨_, rfl, A_1, c_2, vals_3, Rs_4, rfl, hsl_5, rfl⟩
  have hn_hsl_5 := hsl_5.1
  refine wr_sub (R1 := (⟨22, 1, A_1, vals_3.length, c_2, vals_3, false⟩ :: Rs_4)) (Sub.refl _) (fun _ h => Hp.toTail0 (X := [_]) (Y := []) h) ?_
  refine wr_y rfl (y_move rfl) ?_
  refine wr_a rfl (a_callF en19 rfl (Ct.fresh (fun w hw => canonN_ct ((h_b.c _) w hw) (s_b.c hw) hNb))) ?_
  rintro _ _ ⟨_, rfl, A_7, c_8, vals_9, Rs_10, rfl, hsl_11, rfl⟩
  have hn_hsl_11 := hsl_11.1
  have hw_13 := hsl_11.left Rs_4
  have hw_14 := hsl_5.right Rs_10
  refine wr_sub (R1 := (⟨22, 1, A_7, vals_9.length, c_8, vals_9, false⟩ :: ⟨22, 1, A_1, vals_3.length, c_2, vals_3, false⟩ :: (Rs_10 ++ Rs_4))) (Sub.refl _) (fun _ h => Hp.toTail (X := [_]) (Y := [_]) h) ?_
  refine wr_a rfl (a_callF en55 rfl (Ct.quiet (fun w hw => equalFn_ct ((rdr 1 rfl) w hw) (hw_14.slw (canon_ok s_a.okB) (Hp.right (R' := [_, _]) hw)) ((rdr 0 rfl) w hw) (hw_13.slw (canon_ok s_b.okB) (Hp.right (R' := [_, _]) hw)) (by have := canon_few a; omega)))) ?_
  rintro _ _ ⟨rfl, rfl⟩
  refine wr_y rfl (y_assign rfl) ?_
  refine wr_nil ?_
  refine w_retR (R1 := []) (fun _ h => (h.selR (F := [_, _]) (F' := []) [] (by decide) rfl).left (X := [])) ?_
  refine ⟨_, rfl, ?_⟩
  rfl

end Go.Proofs.Ytdfcnalkdlifiaa
