/- Several texts of our own in one: N4, F2, N5, N6, G1, Q14, Q16, Q17, Q20, E20, Q25, Q27, Q29, Q30, H1, F7, F9, F10, Q18, E17, F11, V2, Q31, H2, Q35, Q38, Q39, E30. -/
import Derived.Shelf.Abstract
import Derived.WalkKit
import Derived.OwnWalkIn
import Derived.TacticsInMore
import Derived.LoopNIn
import Derived.LoopIn
import Derived.Test.YtdfcnalkdlifiaaProg
import Derived.Test.YtdfcnalkdlifiaaMX2
/-! ## N4 -/
namespace Go.Proofs.Ytdfcnalkdlifiaa
open Go Go.Eng Go.Pure
set_option linter.unusedVariables false
theorem rt_step {β : Type} (f : RC → β) {lr : List RC} {i : Int} (h0 : 0 ≤ i) (h1 : i < lr.length) : (lr.take (i + 1).toNat).map f = (lr.take i.toNat).map f ++ [f (rdG lr i)] := by
  rw [show (i + 1).toNat = i.toNat + 1 by omega, List.take_add_one, List.getElem?_eq_getElem (by omega), List.map_append]
  unfold rdG
  rw [List.getD_eq_getElem?_getD, List.getElem?_eq_getElem (by omega)]
  rfl
theorem rt_done {lr : List RC} {ws : List (List Int)} {i : Int} (hl : lr.map RC.rt = ringS ws) (hi : (lr.length : Int) ≤ i) : (lr.take i.toNat).map RC.root = (ringS ws).map Prod.fst ∧ (lr.take i.toNat).map RC.times = (ringS ws).map Prod.snd := by
  rw [List.take_of_length_le (by omega), ← hl, List.map_map, List.map_map]
  exact ⟨rfl, rfl⟩
set_option maxRecDepth 100000 in
set_option maxHeartbeats 1500000 in
theorem rootsN_ct {w : World} {A_ws : Option Addr} {n_ws c_ws : Nat} {vals_ws : List Value} {ws : List (List Int)} (h_ws : Rd w A_ws n_ws c_ws 1 vals_ws) (s_ws : SlW .u8 w vals_ws ws) (hN : (∀ w ∈ ws, w.length ≤ 8000) ∧ ws.length ≤ 100000) :
    Ct Try.prog 23 #[.slice A_ws n_ws c_ws] w.heap.size w [] (fun v R' => ∃ (A : Option Addr) (c : Nat) (A2 : Option Addr) (c2 : Nat) (vals : List Value) (Rs : List Row), v = .tuple #[.slice A vals.length c, .slice A2 ((ringS ws).map Prod.snd).length c2] ∧ SlR .u8 Rs vals ((ringS ws).map Prod.fst) ∧ R' = ⟨22, 1, A, vals.length, c, vals, false⟩ :: ⟨3, 1, A2, ((ringS ws).map Prod.snd).length, c2, ints .i64 ((ringS ws).map Prod.snd), false⟩ :: Rs) := by
  obtain rfl : n_ws = ws.length := by have := h_ws.len; have := s_ws.1; omega
  refine fn2 Try.func23 rfl rfl rfl ?_
  have m_ws := h_ws.max
  refine w_seq ?_
  refine w_reg ?_
  refine wr_sub (R1 := (⟨22, 1, none, 0, 0, [], false⟩ :: [])) (Sub.refl _) (fun _ h => h.nil 22 1) ?_
  refine wr_y rfl (y_assign rfl) ?_
  refine wr_sub (R1 := (⟨3, 1, none, 0, 0, ints .i64 ([]), false⟩ :: ⟨22, 1, none, 0, 0, [], false⟩ :: [])) (Sub.refl _) (fun _ h => h.nil 3 1) ?_
  refine wr_y rfl (y_assign rfl) ?_
  refine wr_nil ?_
  refine w_seq ?_
  refine w_seq ?_
  refine w_reg ?_
  refine wr_y rfl (y_move rfl) ?_
  refine wr_a rfl (a_callF en40 rfl (Ct.fresh (fun w hw => rings_ct ((h_ws.c _) w hw) (s_ws.c hw) (by first | assumption | omega | decide)))) ?_
  rintro _ _ ⟨_, rfl, A_1, c_2, l_3, Rs_4, rfl, hrg_5, hlr_6, rfl⟩
  refine wr_sub (R1 := (⟨57, 2, A_1, l_3.length, c_2, rgs l_3, false⟩ :: ⟨3, 1, none, 0, 0, ints .i64 ([]), false⟩ :: ⟨22, 1, none, 0, 0, [], false⟩ :: Rs_4)) (Sub.refl _) (fun _ h => Hp.toTail0 (X := [_]) (Y := [_, _]) h) ?_
  refine wr_y rfl (y_len Try.underlying54 rfl) ?_
  refine wr_y rfl (y_move rfl) ?_
  refine wr_nil ?_
  refine w_block ?_
  refine w_loop10 (fun (i : Int) (A1 : Option Addr) (n1 : Nat) (c1 : Nat) (vals : List Value) (ls : List (List Int)) (A2 : Option Addr) (n2 : Nat) (c2 : Nat) (ts : List Int) => [(2, .slice A1 n1 c1), (3, .slice A2 n2 c2), (7, .slice A_1 l_3.length c_2), (8, .int .i64 ((l_3.length : Nat) : Int)), (9, .int .i64 i)]) (fun (i : Int) (A1 : Option Addr) (n1 : Nat) (c1 : Nat) (vals : List Value) (ls : List (List Int)) (A2 : Option Addr) (n2 : Nat) (c2 : Nat) (ts : List Int) => (⟨57, 2, A_1, l_3.length, c_2, rgs l_3, false⟩ :: ⟨3, 1, A2, n2, c2, ints .i64 ts, false⟩ :: ⟨22, 1, A1, n1, c1, vals, false⟩ :: Rs_4)) (fun (i : Int) (A1 : Option Addr) (n1 : Nat) (c1 : Nat) (vals : List Value) (ls : List (List Int)) (A2 : Option Addr) (n2 : Nat) (c2 : Nat) (ts : List Int) => (0 ≤ i) ∧ (i ≤ l_3.length) ∧ (n1 = vals.length) ∧ (n2 = ts.length) ∧ (SlR .u8 Rs_4 vals ls) ∧ (ls = (l_3.take i.toNat).map RC.root) ∧ (ts = (l_3.take i.toNat).map RC.times)) (fun (i : Int) (A1 : Option Addr) (n1 : Nat) (c1 : Nat) (vals : List Value) (ls : List (List Int)) (A2 : Option Addr) (n2 : Nat) (c2 : Nat) (ts : List Int) => (l_3.length - i).toNat) ?_ ?_
  ·
    exact ⟨0, none, 0, 0, [], [], none, 0, 0, [], ⟨(by omega), (by omega), (rfl), (rfl), (SlR.nilR _ _), (rfl), (rfl)⟩, (Sub.cons rfl (Sub.cons rfl (Sub.cons rfl (Sub.cons rfl (Sub.cons rfl Sub.nil))))), fun _ h => h⟩
  intro i A1 n1 c1 vals ls A2 n2 c2 ts ⟨hi0, hi1, hn1, hn2, hsl, hls, hts⟩
  have hll := congrArg List.length hls
  rw [List.length_map, List.length_take] at hll
  have hlt := congrArg List.length hts
  rw [List.length_map, List.length_take] at hlt
  have hsn := hsl.1
  have hfew : l_3.length ≤ ws.length := by have h1 := congrArg List.length hlr_6; rw [List.length_map, (ringS_perm ws).length_eq] at h1; have h2 := ringsOf_few ws; omega
  refine w_seq ?_
  refine w_reg ?_
  refine wr_y rfl (y_lt rfl rfl) ?_
  refine wr_nil ?_
  refine w_seq ?_
  refine w_if rfl (fun hc1 => ?_) (fun hc1 => ?_)
  ·
    refine w_skip ?_
    refine w_seq ?_
    refine w_block ?_
    refine w_seq ?_
    refine w_reg ?_
    refine wr_y rfl (y_index Try.underlying54 sz57 rfl rfl (rdr 0 rfl) rfl (by omega) (by omega)) ?_
    have hr_8 := (hrg_5 _ (rdG_mem (l := l_3) (i := i) (by omega) (by omega))).2
    refine wr_y rfl (y_ldR Try.underlying57 rfl sz57 rfl (rdr 0 rfl) (by omega) (by omega)) ?_
    refine wr_a rfl (a_alloc (sz := 2) zz57 rfl) ?_
    rintro _ _ ⟨g_10, rfl, rfl⟩
    refine wr_rows (R1 := (⟨57, 2, (some ⟨g_10, 0, none⟩), 1, 1, [.slice none 0 0, .int .i64 0], false⟩ :: ⟨57, 2, A_1, l_3.length, c_2, rgs l_3, false⟩ :: ⟨3, 1, A2, n2, c2, ints .i64 ts, false⟩ :: ⟨22, 1, A1, n1, c1, vals, false⟩ :: Rs_4)) rfl ?_
    refine wr_n (a_storeAll (vs := [.slice ((rdG l_3 i).A) ((rdG l_3 i).root.length) ((rdG l_3 i).c), .int .i64 ((rdG l_3 i).times)]) 0 rfl sz57 rfl rfl rfl (by intro v hv; simp at hv; rcases hv with rfl | rfl <;> rfl) rfl) ?_
    rintro _ _ rfl
    refine wr_rows (R1 := (⟨57, 2, (some ⟨g_10, 0, none⟩), 1, 1, [.slice ((rdG l_3 i).A) ((rdG l_3 i).root.length) ((rdG l_3 i).c), .int .i64 ((rdG l_3 i).times)], false⟩ :: ⟨57, 2, A_1, l_3.length, c_2, rgs l_3, false⟩ :: ⟨3, 1, A2, n2, c2, ints .i64 ts, false⟩ :: ⟨22, 1, A1, n1, c1, vals, false⟩ :: Rs_4)) rfl ?_
    refine wr_nil ?_
    refine w_regdc (Rc := (⟨57, 2, (some ⟨g_10, 0, none⟩), 1, 1, [.slice ((rdG l_3 i).A) ((rdG l_3 i).root.length) ((rdG l_3 i).c), .int .i64 ((rdG l_3 i).times)], false⟩ :: Rs_4)) mixed (fun _ h => h.selR (F := [_, _, _, _]) (F' := [_]) [0] (by decide) rfl) ?_
    refine cd_y 0 rfl (by kernel_rfl) rfl (y_move rfl) ?_
    refine cd_y 1 rfl (by kernel_rfl) rfl (y_fieldAt (off := 0) (m := 0) Try.underlying57 rfl sz22 rfl rfl rfl) ?_
    refine cd_y 2 rfl (by kernel_rfl) rfl (y_ldIn (rdR 0 (r := ⟨57, 2, (some ⟨g_10, 0, none⟩), 1, 1, [.slice ((rdG l_3 i).A) ((rdG l_3 i).root.length) ((rdG l_3 i).c), .int .i64 ((rdG l_3 i).times)], false⟩) rfl) Try.underlying22 rfl rfl rfl) ?_
    refine cd_y 5 rfl (by kernel_rfl) rfl (y_move rfl) ?_
    refine cd_y 6 rfl (by kernel_rfl) rfl (y_fieldAt (off := 1) (m := 1) Try.underlying57 rfl sz3 rfl rfl rfl) ?_
    refine cd_y 7 rfl (by kernel_rfl) rfl (y_ldIn (rdR 0 (r := ⟨57, 2, (some ⟨g_10, 0, none⟩), 1, 1, [.slice ((rdG l_3 i).A) ((rdG l_3 i).root.length) ((rdG l_3 i).c), .int .i64 ((rdG l_3 i).times)], false⟩) rfl) Try.underlying3 rfl rfl rfl) ?_
    refine cd_two 3 8 (by kernel_rfl) ?_ ?_
    ·
      refine c1_a 3 rfl rfl (a_lit [.slice ((rdG l_3 i).A) ((rdG l_3 i).root.length) ((rdG l_3 i).c)] Try.underlying30 zs22 rfl rfl rfl rfl) ?_
      rintro _ _ ⟨g_12, rfl, rfl⟩
      refine ⟨fun _ h => h.selR (F := [_, _, _, _, _]) (F' := [_]) [1] (by decide) rfl, ?_⟩
      refine cd_two 4 8 (by kernel_rfl) ?_ ?_
      ·
        refine c1_a 4 rfl rfl (a_append 4 rfl rfl Try.underlying30 zb22 rfl rfl rfl rfl rfl (rdr 0 rfl) (by simp [Value.oneCell']) (by dsimp only; omega)) ?_
        rintro _ _ ⟨A_13, c_14, rfl, rfl⟩
        refine ⟨fun _ h => h.selR (F := [_, _, _, _, _]) (F' := [_]) [1] (by decide) rfl, ?_⟩
        refine cd_rows (R1 := (⟨22, 1, (some ⟨g_12, 0, none⟩), 1, 1, [.slice ((rdG l_3 i).A) ((rdG l_3 i).root.length) ((rdG l_3 i).c)], false⟩ :: ⟨57, 2, (some ⟨g_10, 0, none⟩), 1, 1, [.slice ((rdG l_3 i).A) ((rdG l_3 i).root.length) ((rdG l_3 i).c), .int .i64 ((rdG l_3 i).times)], false⟩ :: ⟨57, 2, A_1, l_3.length, c_2, rgs l_3, false⟩ :: ⟨3, 1, A2, n2, c2, ints .i64 ts, false⟩ :: ⟨22, 1, A_13, (n1 + 1), c_14, vals ++ ([.slice ((rdG l_3 i).A) ((rdG l_3 i).root.length) ((rdG l_3 i).c)]), false⟩ :: Rs_4)) rfl ?_
        refine cd_as (v := .slice A_13 (n1 + 1) c_14) rfl ?_
        refine cd_one 8 (by kernel_rfl) ?_
        refine c1_a 8 rfl rfl (a_litI .i64 [(rdG l_3 i).times] Try.underlying35 zs3 rfl rfl rfl) ?_
        rintro _ _ ⟨g_16, rfl, rfl⟩
        refine ⟨fun _ h => h.selR (F := [_, _, _, _, _, _]) (F' := [_]) [2] (by decide) rfl, ?_⟩
        refine cd_one 9 (by kernel_rfl) ?_
        refine c1_a 9 rfl rfl (a_appendI 4 rfl Try.underlying35 zb3 rfl rfl rfl (rdr 0 rfl) (by omega)) ?_
        rintro _ _ ⟨A_17, c_18, rfl, rfl⟩
        refine ⟨fun _ h => h.selR (F := [_, _, _, _, _, _]) (F' := [_]) [2] (by decide) rfl, ?_⟩
        refine cd_rows (R1 := (⟨3, 1, (some ⟨g_16, 0, none⟩), 1, 1, ints .i64 ([(rdG l_3 i).times]), false⟩ :: ⟨22, 1, (some ⟨g_12, 0, none⟩), 1, 1, [.slice ((rdG l_3 i).A) ((rdG l_3 i).root.length) ((rdG l_3 i).c)], false⟩ :: ⟨57, 2, (some ⟨g_10, 0, none⟩), 1, 1, [.slice ((rdG l_3 i).A) ((rdG l_3 i).root.length) ((rdG l_3 i).c), .int .i64 ((rdG l_3 i).times)], false⟩ :: ⟨57, 2, A_1, l_3.length, c_2, rgs l_3, false⟩ :: ⟨3, 1, A_17, (n2 + 1), c_18, ints .i64 (ts ++ ([(rdG l_3 i).times])), false⟩ :: ⟨22, 1, A_13, (n1 + 1), c_14, vals ++ ([.slice ((rdG l_3 i).A) ((rdG l_3 i).root.length) ((rdG l_3 i).c)]), false⟩ :: Rs_4)) rfl ?_
        refine cd_as (v := .slice A_17 (n2 + 1) c_18) rfl ?_
        refine cd_y 10 rfl (by kernel_rfl) rfl (y_assign rfl) ?_
        refine cd_y 11 rfl (by kernel_rfl) rfl (y_assign rfl) ?_
        refine cd_nil (by kernel_rfl) ?_
        refine w_reg ?_
        refine wr_y rfl (y_addI rfl rfl (by omega)) ?_
        refine wr_y rfl (y_move rfl) ?_
        refine wr_nil ?_
        exact ⟨i + 1, A_13, n1 + 1, c_14, vals ++ ([.slice ((rdG l_3 i).A) ((rdG l_3 i).root.length) ((rdG l_3 i).c)]), (ls ++ [(rdG l_3 i).root]), A_17, n2 + 1, c_18, ts ++ ([(rdG l_3 i).times]), ⟨(by omega), (by omega), (by rw [List.length_append, hn1]; rfl), (by rw [List.length_append, hn2]; rfl), (hsl.push rfl (hrg_5 _ (rdG_mem hi0 (by omega))).2), (by rw [rt_step RC.root hi0 (by omega), ← hls]), (by rw [rt_step RC.times hi0 (by omega), ← hts])⟩, (by omega), (Sub.cons rfl (Sub.cons rfl (Sub.cons rfl (Sub.cons rfl (Sub.cons rfl Sub.nil))))), fun _ h => h.selR (F := [_, _, _, _, _, _]) (F' := [_, _, _]) [3, 4, 5] (by decide) rfl⟩
      ·
        refine c1_a 8 rfl rfl (a_litI .i64 [(rdG l_3 i).times] Try.underlying35 zs3 rfl rfl rfl) ?_
        rintro _ _ ⟨g_20, rfl, rfl⟩
        refine ⟨fun _ h => h.selR (F := [_, _, _, _, _, _]) (F' := [_]) [2] (by decide) rfl, ?_⟩
        refine cd_one 4 (by kernel_rfl) ?_
        refine c1_a 4 rfl rfl (a_append 5 rfl rfl Try.underlying30 zb22 rfl rfl rfl rfl rfl (rdr 1 rfl) (by simp [Value.oneCell']) (by dsimp only; omega)) ?_
        rintro _ _ ⟨A_21, c_22, rfl, rfl⟩
        refine ⟨fun _ h => h.selR (F := [_, _, _, _, _, _]) (F' := [_]) [2] (by decide) rfl, ?_⟩
        refine cd_rows (R1 := (⟨3, 1, (some ⟨g_20, 0, none⟩), 1, 1, ints .i64 ([(rdG l_3 i).times]), false⟩ :: ⟨22, 1, (some ⟨g_12, 0, none⟩), 1, 1, [.slice ((rdG l_3 i).A) ((rdG l_3 i).root.length) ((rdG l_3 i).c)], false⟩ :: ⟨57, 2, (some ⟨g_10, 0, none⟩), 1, 1, [.slice ((rdG l_3 i).A) ((rdG l_3 i).root.length) ((rdG l_3 i).c), .int .i64 ((rdG l_3 i).times)], false⟩ :: ⟨57, 2, A_1, l_3.length, c_2, rgs l_3, false⟩ :: ⟨3, 1, A2, n2, c2, ints .i64 ts, false⟩ :: ⟨22, 1, A_21, (n1 + 1), c_22, vals ++ ([.slice ((rdG l_3 i).A) ((rdG l_3 i).root.length) ((rdG l_3 i).c)]), false⟩ :: Rs_4)) rfl ?_
        refine cd_as (v := .slice A_21 (n1 + 1) c_22) rfl ?_
        refine cd_one 9 (by kernel_rfl) ?_
        refine c1_a 9 rfl rfl (a_appendI 4 rfl Try.underlying35 zb3 rfl rfl rfl (rdr 0 rfl) (by omega)) ?_
        rintro _ _ ⟨A_23, c_24, rfl, rfl⟩
        refine ⟨fun _ h => h.selR (F := [_, _, _, _, _, _]) (F' := [_]) [2] (by decide) rfl, ?_⟩
        refine cd_rows (R1 := (⟨3, 1, (some ⟨g_20, 0, none⟩), 1, 1, ints .i64 ([(rdG l_3 i).times]), false⟩ :: ⟨22, 1, (some ⟨g_12, 0, none⟩), 1, 1, [.slice ((rdG l_3 i).A) ((rdG l_3 i).root.length) ((rdG l_3 i).c)], false⟩ :: ⟨57, 2, (some ⟨g_10, 0, none⟩), 1, 1, [.slice ((rdG l_3 i).A) ((rdG l_3 i).root.length) ((rdG l_3 i).c), .int .i64 ((rdG l_3 i).times)], false⟩ :: ⟨57, 2, A_1, l_3.length, c_2, rgs l_3, false⟩ :: ⟨3, 1, A_23, (n2 + 1), c_24, ints .i64 (ts ++ ([(rdG l_3 i).times])), false⟩ :: ⟨22, 1, A_21, (n1 + 1), c_22, vals ++ ([.slice ((rdG l_3 i).A) ((rdG l_3 i).root.length) ((rdG l_3 i).c)]), false⟩ :: Rs_4)) rfl ?_
        refine cd_as (v := .slice A_23 (n2 + 1) c_24) rfl ?_
        refine cd_y 10 rfl (by kernel_rfl) rfl (y_assign rfl) ?_
        refine cd_y 11 rfl (by kernel_rfl) rfl (y_assign rfl) ?_
        refine cd_nil (by kernel_rfl) ?_
        refine w_reg ?_
        refine wr_y rfl (y_addI rfl rfl (by omega)) ?_
        refine wr_y rfl (y_move rfl) ?_
        refine wr_nil ?_
        exact ⟨i + 1, A_21, n1 + 1, c_22, vals ++ ([.slice ((rdG l_3 i).A) ((rdG l_3 i).root.length) ((rdG l_3 i).c)]), (ls ++ [(rdG l_3 i).root]), A_23, n2 + 1, c_24, ts ++ ([(rdG l_3 i).times]), ⟨(by omega), (by omega), (by rw [List.length_append, hn1]; rfl), (by rw [List.length_append, hn2]; rfl), (hsl.push rfl (hrg_5 _ (rdG_mem hi0 (by omega))).2), (by rw [rt_step RC.root hi0 (by omega), ← hls]), (by rw [rt_step RC.times hi0 (by omega), ← hts])⟩, (by omega), (Sub.cons rfl (Sub.cons rfl (Sub.cons rfl (Sub.cons rfl (Sub.cons rfl Sub.nil))))), fun _ h => h.selR (F := [_, _, _, _, _, _]) (F' := [_, _, _]) [3, 4, 5] (by decide) rfl⟩
    ·
      refine c1_a 8 rfl rfl (a_litI .i64 [(rdG l_3 i).times] Try.underlying35 zs3 rfl rfl rfl) ?_
      rintro _ _ ⟨g_26, rfl, rfl⟩
      refine ⟨fun _ h => h.selR (F := [_, _, _, _, _]) (F' := [_]) [1] (by decide) rfl, ?_⟩
      refine cd_one 3 (by kernel_rfl) ?_
      refine c1_a 3 rfl rfl (a_lit [.slice ((rdG l_3 i).A) ((rdG l_3 i).root.length) ((rdG l_3 i).c)] Try.underlying30 zs22 rfl rfl rfl rfl) ?_
      rintro _ _ ⟨g_28, rfl, rfl⟩
      refine ⟨fun _ h => h.selR (F := [_, _, _, _, _, _]) (F' := [_]) [2] (by decide) rfl, ?_⟩
      refine cd_one 4 (by kernel_rfl) ?_
      refine c1_a 4 rfl rfl (a_append 5 rfl rfl Try.underlying30 zb22 rfl rfl rfl rfl rfl (rdr 0 rfl) (by simp [Value.oneCell']) (by dsimp only; omega)) ?_
      rintro _ _ ⟨A_29, c_30, rfl, rfl⟩
      refine ⟨fun _ h => h.selR (F := [_, _, _, _, _, _]) (F' := [_]) [2] (by decide) rfl, ?_⟩
      refine cd_rows (R1 := (⟨22, 1, (some ⟨g_28, 0, none⟩), 1, 1, [.slice ((rdG l_3 i).A) ((rdG l_3 i).root.length) ((rdG l_3 i).c)], false⟩ :: ⟨3, 1, (some ⟨g_26, 0, none⟩), 1, 1, ints .i64 ([(rdG l_3 i).times]), false⟩ :: ⟨57, 2, (some ⟨g_10, 0, none⟩), 1, 1, [.slice ((rdG l_3 i).A) ((rdG l_3 i).root.length) ((rdG l_3 i).c), .int .i64 ((rdG l_3 i).times)], false⟩ :: ⟨57, 2, A_1, l_3.length, c_2, rgs l_3, false⟩ :: ⟨3, 1, A2, n2, c2, ints .i64 ts, false⟩ :: ⟨22, 1, A_29, (n1 + 1), c_30, vals ++ ([.slice ((rdG l_3 i).A) ((rdG l_3 i).root.length) ((rdG l_3 i).c)]), false⟩ :: Rs_4)) rfl ?_
      refine cd_as (v := .slice A_29 (n1 + 1) c_30) rfl ?_
      refine cd_one 9 (by kernel_rfl) ?_
      refine c1_a 9 rfl rfl (a_appendI 4 rfl Try.underlying35 zb3 rfl rfl rfl (rdr 1 rfl) (by omega)) ?_
      rintro _ _ ⟨A_31, c_32, rfl, rfl⟩
      refine ⟨fun _ h => h.selR (F := [_, _, _, _, _, _]) (F' := [_]) [2] (by decide) rfl, ?_⟩
      refine cd_rows (R1 := (⟨22, 1, (some ⟨g_28, 0, none⟩), 1, 1, [.slice ((rdG l_3 i).A) ((rdG l_3 i).root.length) ((rdG l_3 i).c)], false⟩ :: ⟨3, 1, (some ⟨g_26, 0, none⟩), 1, 1, ints .i64 ([(rdG l_3 i).times]), false⟩ :: ⟨57, 2, (some ⟨g_10, 0, none⟩), 1, 1, [.slice ((rdG l_3 i).A) ((rdG l_3 i).root.length) ((rdG l_3 i).c), .int .i64 ((rdG l_3 i).times)], false⟩ :: ⟨57, 2, A_1, l_3.length, c_2, rgs l_3, false⟩ :: ⟨3, 1, A_31, (n2 + 1), c_32, ints .i64 (ts ++ ([(rdG l_3 i).times])), false⟩ :: ⟨22, 1, A_29, (n1 + 1), c_30, vals ++ ([.slice ((rdG l_3 i).A) ((rdG l_3 i).root.length) ((rdG l_3 i).c)]), false⟩ :: Rs_4)) rfl ?_
      refine cd_as (v := .slice A_31 (n2 + 1) c_32) rfl ?_
      refine cd_y 10 rfl (by kernel_rfl) rfl (y_assign rfl) ?_
      refine cd_y 11 rfl (by kernel_rfl) rfl (y_assign rfl) ?_
      refine cd_nil (by kernel_rfl) ?_
      refine w_reg ?_
      refine wr_y rfl (y_addI rfl rfl (by omega)) ?_
      refine wr_y rfl (y_move rfl) ?_
      refine wr_nil ?_
      exact ⟨i + 1, A_29, n1 + 1, c_30, vals ++ ([.slice ((rdG l_3 i).A) ((rdG l_3 i).root.length) ((rdG l_3 i).c)]), (ls ++ [(rdG l_3 i).root]), A_31, n2 + 1, c_32, ts ++ ([(rdG l_3 i).times]), ⟨(by omega), (by omega), (by rw [List.length_append, hn1]; rfl), (by rw [List.length_append, hn2]; rfl), (hsl.push rfl (hrg_5 _ (rdG_mem hi0 (by omega))).2), (by rw [rt_step RC.root hi0 (by omega), ← hls]), (by rw [rt_step RC.times hi0 (by omega), ← hts])⟩, (by omega), (Sub.cons rfl (Sub.cons rfl (Sub.cons rfl (Sub.cons rfl (Sub.cons rfl Sub.nil))))), fun _ h => h.selR (F := [_, _, _, _, _, _]) (F' := [_, _, _]) [3, 4, 5] (by decide) rfl⟩
  ·
    refine w_exit ?_
    refine w_seq ?_
    refine w_reg ?_
    refine wr_y rfl (y_move rfl) ?_
    refine wr_y rfl (y_move rfl) ?_
    refine wr_y rfl (y_assign rfl) ?_
    refine wr_y rfl (y_assign rfl) ?_
    refine wr_nil ?_
    refine w_retR (R1 := (⟨22, 1, A1, n1, c1, vals, false⟩ :: ⟨3, 1, A2, n2, c2, ints .i64 ts, false⟩ :: Rs_4)) (fun _ h => h.selR (F := [_, _, _]) (F' := [_, _]) [2, 1] (by decide) rfl) ?_
    refine ⟨_, _, rfl, rfl, ?_⟩
    have hrd := rt_done hlr_6 (show (l_3.length : Int) ≤ i by omega)
    obtain rfl : ls = (ringS ws).map Prod.fst := hls.trans hrd.1
    obtain rfl : ts = (ringS ws).map Prod.snd := hts.trans hrd.2
    subst hn1; subst hn2
    exact ⟨_, _, _, _, vals, _, rfl, hsl, rfl⟩

end Go.Proofs.Ytdfcnalkdlifiaa

/-! ## F2 -/
namespace Go.Proofs.Ytdfcnalkdlifiaa
open Go Go.Eng Go.Pure
set_option linter.unusedVariables false
end Go.Proofs.Ytdfcnalkdlifiaa

/-! ## N5 -/
namespace Go.Proofs.Ytdfcnalkdlifiaa
open Go Go.Eng Go.Pure
set_option linter.unusedVariables false
def kw (c : List Int) : RT := (rootW c, timesW c)
structure CI (ws : List (List Int)) (ls : List (List Int)) : Prop where
  perm : (ls.map kw).Perm (ringsOf ws)
  sorted : ls.Pairwise fun a b => kcmp (kw a) (kw b) ≤ 0
end Go.Proofs.Ytdfcnalkdlifiaa

/-! ## N6 -/
namespace Go.Proofs.Ytdfcnalkdlifiaa
open Go Go.Eng Go.Pure
set_option linter.unusedVariables false
set_option maxRecDepth 100000 in
theorem ints4_ct {w : World} {A_l : Option Addr} {n_l c_l : Nat} {l : List Int} {A_m : Option Addr} {n_m c_m : Nat} {m : List Int} (h_l : Rd w A_l n_l c_l 1 (ints .i64 l)) (h_m : Rd w A_m n_m c_m 1 (ints .i64 m)) (hN : l.length ≤ 1000000) :
    Ct Try.prog 26 #[.slice A_l n_l c_l, .slice A_m n_m c_m] w.heap.size w [] (fun v R' => v = .bool (decide (l = m))) := by
  obtain rfl := h_l.lenI
  obtain rfl := h_m.lenI
  refine fn1 Try.func26 rfl rfl rfl ?_
  have m_l := h_l.max
  have m_m := h_m.max
  refine w_seq ?_
  refine w_reg ?_
  refine wr_y rfl (y_assign rfl) ?_
  refine wr_nil ?_
  refine w_seq ?_
  refine w_seq ?_
  refine w_reg ?_
  refine wr_y rfl (y_move rfl) ?_
  refine wr_y rfl (y_len Try.underlying35 rfl) ?_
  refine wr_y rfl (y_move rfl) ?_
  refine wr_y rfl (y_len Try.underlying35 rfl) ?_
  refine wr_y rfl (y_ne rfl rfl) ?_
  refine wr_nil ?_
  refine w_if rfl (fun hc1 => ?_) (fun hc1 => ?_)
  ·
    refine w_seq ?_
    refine w_reg ?_
    refine wr_y rfl (y_assign rfl) ?_
    refine wr_nil ?_
    refine w_ret ?_
    refine ⟨_, rfl, ?_⟩
    exact congrArg Value.bool (decide_eq_false (fun e => by rw [e] at hc1; exact hc1 rfl)).symm
  ·
    refine w_skip ?_
    refine w_seq ?_
    refine w_seq ?_
    refine w_reg ?_
    refine wr_y rfl (y_assign rfl) ?_
    refine wr_nil ?_
    refine w_block ?_
    refine w_loop1 (fun (k : Int) => [(0, .slice A_l l.length c_l), (1, .slice A_m m.length c_m), (5, .int .i64 k)]) (fun (k : Int) => []) (fun (k : Int) => (0 ≤ k) ∧ (k ≤ l.length) ∧ (l.take k.toNat = m.take k.toNat)) (fun (k : Int) => (l.length - k).toNat) ?_ ?_
    ·
      exact ⟨0, ⟨(by omega), (by omega), (rfl)⟩, (Sub.cons rfl (Sub.cons rfl (Sub.cons rfl Sub.nil))), fun _ h => h⟩
    intro k ⟨hk0, hk1, hq⟩
    refine w_seq ?_
    refine w_seq ?_
    refine w_reg ?_
    refine wr_y rfl (y_move rfl) ?_
    refine wr_y rfl (y_move rfl) ?_
    refine wr_y rfl (y_len Try.underlying35 rfl) ?_
    refine wr_y rfl (y_lt rfl rfl) ?_
    refine wr_nil ?_
    refine w_if rfl (fun hc2 => ?_) (fun hc2 => ?_)
    ·
      refine w_skip ?_
      refine w_seq ?_
      refine w_block ?_
      refine w_seq ?_
      refine w_regd mixed ?_
      refine wd_y 0 rfl (by kernel_rfl) rfl (y_move rfl) ?_
      refine wd_y 1 rfl (by kernel_rfl) rfl (y_move rfl) ?_
      refine wd_y 2 rfl (by kernel_rfl) rfl (y_index1 Try.underlying35 sz3 rfl rfl (h_l.c _) (by omega) (by omega)) ?_
      refine wd_y 3 rfl (by kernel_rfl) rfl (y_ldI Try.underlying3 rfl rfl (h_l.c _) (by omega) (by omega)) ?_
      refine wd_y 4 rfl (by kernel_rfl) rfl (y_move rfl) ?_
      refine wd_y 5 rfl (by kernel_rfl) rfl (y_move rfl) ?_
      refine wd_y 6 rfl (by kernel_rfl) rfl (y_index1 Try.underlying35 sz3 rfl rfl (h_m.c _) (by omega) (by omega)) ?_
      refine wd_y 7 rfl (by kernel_rfl) rfl (y_ldI Try.underlying3 rfl rfl (h_m.c _) (by omega) (by omega)) ?_
      refine wd_y 8 rfl (by kernel_rfl) rfl (y_ne rfl rfl) ?_
      refine wd_nil (by kernel_rfl) ?_
      refine w_if rfl (fun hc3 => ?_) (fun hc3 => ?_)
      ·
        refine w_seq ?_
        refine w_reg ?_
        refine wr_y rfl (y_assign rfl) ?_
        refine wr_nil ?_
        refine w_ret ?_
        refine ⟨_, rfl, ?_⟩
        exact congrArg Value.bool (decide_eq_false (fun e => by subst e; exact hc3 rfl)).symm
      ·
        refine w_skip ?_
        refine w_reg ?_
        refine wr_y rfl (y_move rfl) ?_
        refine wr_y rfl (y_addI rfl rfl (by omega)) ?_
        refine wr_y rfl (y_assign rfl) ?_
        refine wr_nil ?_
        exact ⟨k + 1, ⟨(by omega), (by omega), (by rw [take_rd hk0 (by omega), take_rd hk0 (by omega), hq]; exact congrArg (fun z => List.take k.toNat m ++ [z]) (Decidable.not_not.1 (by assumption)))⟩, (by omega), (Sub.cons rfl (Sub.cons rfl (Sub.cons rfl Sub.nil))), fun _ h => h⟩
    ·
      refine w_exit ?_
      refine w_seq ?_
      refine w_reg ?_
      refine wr_y rfl (y_assign rfl) ?_
      refine wr_nil ?_
      refine w_ret ?_
      refine ⟨_, rfl, ?_⟩
      exact congrArg Value.bool (decide_eq_true (by rw [List.take_of_length_le (by omega), List.take_of_length_le (by omega)] at hq; exact hq)).symm

abbrev longP (M : Nat) (ws : List (List Int)) : Prop := M < (ws.take 40).flatten.length ∨ 30 < ws.length
theorem long_no {M : Nat} {ws : List (List Int)} (h : ¬ longP M ws) : ws.length ≤ 30 ∧ ws.flatten.length ≤ M ∧ ∀ w ∈ ws, w.length ≤ M := by
  unfold longP at h
  have h1 : ws.length ≤ 30 := by omega
  have h2 : ws.flatten.length ≤ M := by
    rw [List.take_of_length_le (by omega)] at h
    omega
  exact ⟨h1, h2, fun w hw => Nat.le_trans (List.Sublist.length_le (List.sublist_flatten_of_mem hw)) h2⟩
theorem long_take {ws : List (List Int)} {i : Int} (h0 : 0 ≤ i) (h1 : i ≤ ws.length) (h2 : i ≤ 40) (h : ¬ (i < ws.length ∧ i < 40)) : ws.take i.toNat = ws.take 40 := by
  rcases Int.lt_or_le i 40 with g | g
  · rw [List.take_of_length_le (by omega), List.take_of_length_le (by omega)]
  · rw [show i.toNat = 40 by omega]
theorem other_step {ws ls : List (List Int)} {i : Int} {x : List Int} (hx : x = rdl ws i ∨ ∃ r : Int, (0 < (rdl ws i).length ∧ 0 ≤ r ∧ r ≤ (rdl ws i).length) ∧ x = turnS (rdl ws i) r) (h0 : 0 ≤ i) (h1 : i < ws.length) (h : (ringsOf ls).Perm (ringsOf (ws.drop (i + 1).toNat))) : (ringsOf (ls ++ [x])).Perm (ringsOf (ws.drop (i - 1 + 1).toNat)) := by
  have e : ringsOf [x] = ringsOf [rdl ws i] := by
    rcases hx with rfl | ⟨r, ⟨hp, hr⟩, rfl⟩
    · rfl
    · have hl := turnS_len (rdl ws i) r
      have ht := ringOf_turn (u := rdl ws i) (r := r.toNat) (by omega) hp
      rw [Int.toNat_of_nonneg hr.1] at ht
      unfold ringsOf
      simp [hl, hp, ht]
  rw [show i - 1 + 1 = i by omega, rdl_drop h0 h1, ringsOf_append, e, show rdl ws i :: ws.drop (i + 1).toNat = [rdl ws i] ++ ws.drop (i + 1).toNat from rfl, ringsOf_append]
  exact List.perm_append_comm.trans (List.Perm.append_left _ h)
end Go.Proofs.Ytdfcnalkdlifiaa

/-! ## G1 -/
namespace Go.Proofs.Ytdfcnalkdlifiaa
open Go Go.Eng Go.Pure
set_option linter.unusedVariables false
end Go.Proofs.Ytdfcnalkdlifiaa

/-! ## Q14 -/
namespace Go.Pure
open Go Go.Eng
/-- A row of numbers, with nought behind its end. -/
def pad (m : Int) (l : List Int) (d : Nat) : Int := if d < l.length then lt l d - m + 1 else 0
/-- A number that is no more than any. -/
def lo (s : List Int) : Int := s.foldr min 0
/-- An ending, with nought behind its end. -/
def eu (s : List Int) (i d : Nat) : Int := if i + d < s.length then lt s (i + d) - lo s + 1 else 0
/-- The first h numbers of an ending. -/
def cutE (s : List Int) (i h : Nat) : List Int := (s.drop i).take h
/-- How many of the places have an ending that begins with less. -/
def rkS (s : List Int) (h i : Nat) : Nat := (List.range s.length).countP fun k => decide (cmpL (cutE s k h) (cutE s i h) < 0)
/-- The rank so many places on, and one; nought behind the end. -/
def rkOn (s : List Int) (n i : Nat) : Nat := if i < s.length then rkS s n i + 1 else 0
end Go.Pure

/-! ## Q16 -/
namespace Go.Pure
open Go Go.Eng
/-- The places 0 .. n-1. -/
def iota (n : Nat) : List Int := (List.range n).map fun i : Nat => (i : Int)
theorem iota_len (n : Nat) : (iota n).length = n := by simp [iota]
theorem mem_iota {n : Nat} {x : Int} : x ∈ iota n ↔ 0 ≤ x ∧ x < n := by
  unfold iota
  rw [List.mem_map]
  constructor
  · rintro ⟨i, hi, rfl⟩
    have := List.mem_range.1 hi
    omega
  · intro h
    exact ⟨x.toNat, List.mem_range.2 (by omega), by omega⟩
/-- The order of endings. -/
def ordE (s : List Int) (x y : Int) : Prop := LtH s.length (eu s x.toNat) (eu s y.toNat)
/-- All ranks, asx a row. -/
def rkL (s : List Int) (h : Nat) : List Int := (List.range s.length).map fun i => (rkS s h i : Int)
def onL (s : List Int) (n b : Nat) : List Int := (List.range s.length).map fun i => (rkOn s n (i + b) : Int)
/-- The order by both keys. -/
def joinO (s : List Int) (n b : Nat) : List Int := passK (passK (iota s.length) (onL s n b) (s.length + 1)) (rkL s n) s.length
end Go.Pure

/-! ## Q17 -/
namespace Go.Pure
open Go Go.Eng
/-- The rank so many places on, and one; nought behind the end. -/
def onF (l : List Int) (i h : Int) : Int := if (l.length : Int) ≤ i + h then 0 else rd l (i + h) + 1
section
variable {s V : List Int} {n b : Nat} {p : Int}
end
end Go.Pure

/-! ## Q20 -/
namespace Go.Pure
open Go Go.Eng
theorem iota_nodup (n : Nat) : (iota n).Nodup := by
  unfold iota
  exact List.pairwise_map.2 (List.nodup_range.imp fun {x y} h hh => h (by omega))
end Go.Pure

/-! ## E20 -/
namespace Go.Eng
open Go Go.RowKit
def bools (l : List Bool) : List Value := l.map Value.bool
def rdb (l : List Bool) (i : Int) : Bool := l.getD i.toNat false
def updB (l : List Bool) (i : Int) (v : Bool) : List Bool := l.set i.toNat v
theorem updB_len (l : List Bool) (i : Int) (v : Bool) : (updB l i v).length = l.length := by simp [updB]
theorem rdb_upd {l : List Bool} {i j : Int} {v : Bool} (h0 : 0 ≤ i) (h : i < l.length) (j0 : 0 ≤ j) : rdb (updB l i v) j = if j = i then v else rdb l j := by
  unfold rdb updB
  rw [List.getD_eq_getElem?_getD, List.getElem?_set, List.getD_eq_getElem?_getD]
  by_cases e : j = i
  · subst e
    rw [if_pos rfl, if_pos (by omega), if_pos rfl]
    rfl
  · rw [if_neg (by omega), if_neg e]
theorem rdb_rep (m : Nat) (i : Int) : rdb (List.replicate m false) i = false := by
  unfold rdb
  rw [List.getD_eq_getElem?_getD, List.getElem?_replicate]
  split <;> rfl
section
variable {P : Program} {n : Nd} {B : Nat} {w0 : World} {L : Env} {R : List Row} {ty : TypeId}
end
end Go.Eng

/-! ## Q25 -/
/-
  Plain laws: small and large endings; buckets. Own work.
-/
namespace Go.Pure
open Go Go.Eng
/-- Is the ending at i less than the next one? -/
def smB (s : List Int) (i : Int) : Bool := decide (cmpL (s.drop i.toNat) (s.drop (i + 1).toNat) < 0)
def isL (s : List Int) (p : Int) : Prop := (0 ≤ p ∧ p < s.length) ∧ smB s p = false
def isS (s : List Int) (p : Int) : Prop := (0 ≤ p ∧ p < s.length) ∧ smB s p = true
/-- The first small ones. -/
def fstB (s : List Int) (i : Int) : Bool := decide (0 < i) && smB s i && !smB s (i - 1)
def fstL (s : List Int) : List Int := (iota s.length).filter fun i => fstB s i
theorem perm_all {α : Type} [DecidableEq α] : ∀ {l m : List α}, l.Nodup → (∀ x ∈ l, x ∈ m) → m.length ≤ l.length → l.Perm m
  | [], m, _, _, h => by
    have : m = [] := List.eq_nil_of_length_eq_zero (by simpa using h)
    rw [this]
  | a :: l, m, hd, h, hl => by
    obtain ⟨h1, h2⟩ := List.nodup_cons.1 hd
    have ha := h a (by simp)
    have hp := List.length_pos_of_mem ha
    have := perm_all (l := l) (m := m.erase a) h2 (fun x hx => by
      have hxa : x ≠ a := fun e => h1 (e ▸ hx)
      exact (List.mem_erase_of_ne hxa).2 (h x (List.mem_cons_of_mem _ hx))) (by
      rw [List.length_erase_of_mem ha]
      simp only [List.length_cons] at hl
      omega)
    exact (this.cons a).trans (List.perm_cons_erase ha).symm
/-- A stretch of a row. -/
def seg (row : List Int) (a b : Int) : List Int := (List.range (b - a).toNat).map fun t : Nat => rd row (a + t)
/-- No number that is one stands twice. -/
def Once (row : List Int) : Prop := ∀ q r : Int, 0 ≤ q → q < row.length → 0 ≤ r → r < row.length → 0 ≤ rd row q → rd row q = rd row r → q = r
section
variable (s : List Int) (k : Int)
def st (c : Int) : Int := ps (cntV s k) c
def posL (c : Int) : List Int := (iota s.length).filter fun p => decide (rd s p = c) && !smB s p
def posS (c : Int) : List Int := (iota s.length).filter fun p => decide (rd s p = c) && smB s p
end
section
variable {s : List Int} {k : Int}
end
end Go.Pure
/-
  Plain laws: induced sorting: the large ones, from left to right. Own work.
-/
namespace Go.Pure
open Go Go.Eng
section
variable {s : List Int} {k : Int} {R : Int → Int → Prop}
/-- What an order of endings is to keep while the large ones are laid. -/
structure RelL (s : List Int) (R : Int → Int → Prop) : Prop where
  char : ∀ {p q : Int}, 0 ≤ p ∧ p < s.length → 0 ≤ q ∧ q < s.length → rd s p < rd s q → R p q
  ls : ∀ {p q : Int}, isL s p → isS s q → rd s p = rd s q → R p q
  last : ∀ {q : Int}, 0 < s.length → 0 ≤ q → q + 1 < s.length → rd s (s.length - 1) = rd s q → isL s q → R (s.length - 1) q
  backL : ∀ {p q : Int}, isL s p → isL s q → p + 1 < s.length → q + 1 < s.length → rd s p = rd s q → R (p + 1) (q + 1) → R p q
/-- The row that the first small ones are laid into. -/
structure BaseI (s : List Int) (k : Int) (R : Int → Int → Prop) (mF : Int → Int) (row : List Int) : Prop where
  len : row.length = s.length
  m0 : ∀ c, 0 ≤ c → c < k → 0 ≤ mF c ∧ mF c ≤ (posS s c).length
  some_ : ∀ c q, 0 ≤ c → c < k → st s k (c + 1) - mF c ≤ q → q < st s k (c + 1) → isS s (rd row q) ∧ rd s (rd row q) = c
  none_ : ∀ c q, 0 ≤ c → c < k → st s k c ≤ q → q < st s k (c + 1) - mF c → rd row q = -1
  once : Once row
  all : ∀ p : Int, 0 ≤ p → p < s.length → fstB s p = true → ∃ q : Int, 0 ≤ q ∧ q < s.length ∧ rd row q = p
  sorted : ∀ a b : Int, 0 ≤ a → a < b → b < s.length → 0 ≤ rd row a → 0 ≤ rd row b → R (rd row a) (rd row b)
structure LargeI (s : List Int) (k : Int) (R : Int → Int → Prop) (mF : Int → Int) (row0 row H : List Int) (C : Int → Prop) : Prop where
  len : row.length = s.length
  hlen : H.length = k.toNat
  hH : ∀ c, 0 ≤ c → c < k → st s k c ≤ rd H c ∧ rd H c ≤ st s k c + (posL s c).length
  placed : ∀ c q, 0 ≤ c → c < k → st s k c ≤ q → q < rd H c → isL s (rd row q) ∧ rd s (rd row q) = c
  rest : ∀ c q, 0 ≤ c → c < k → rd H c ≤ q → q < st s k (c + 1) → rd row q = rd row0 q
  once : Once row
  closed : ∀ p, isL s p → ((∃ q : Int, 0 ≤ q ∧ q < s.length ∧ rd row q = p) ↔ C p)
  sorted : ∀ a b : Int, 0 ≤ a → a < b → b < s.length → 0 ≤ rd row a → 0 ≤ rd row b → R (rd row a) (rd row b)
variable (hk : 0 ≤ k) (hs : ∀ x ∈ s, 0 ≤ x ∧ x < k) (hR : RelL s R)
variable {mF : Int → Int} {row0 row H : List Int} {C : Int → Prop}
include hk hs in
include hk hs in
include hk hs hR in
/-- Which large ones are there when the row has been read up to i. -/
def CL (s row : List Int) (i p : Int) : Prop := p = s.length - 1 ∨ ∃ q : Int, 0 ≤ q ∧ q < i ∧ rd row q = p + 1
include hk hs hR in
include hk hs in
include hk hs hR in
include hk hs in
end
end Go.Pure
/-
  Plain laws: induced sorting: the small ones, from right to left. Own work.
-/
namespace Go.Pure
open Go Go.Eng
section
variable {s : List Int} {k : Int} {R : Int → Int → Prop}
/-- What an order of endings is to keep while the small ones are laid. -/
structure RelS (s : List Int) (R : Int → Int → Prop) : Prop where
  char : ∀ {p q : Int}, 0 ≤ p ∧ p < s.length → 0 ≤ q ∧ q < s.length → rd s p < rd s q → R p q
  ls : ∀ {p q : Int}, isL s p → isS s q → rd s p = rd s q → R p q
  backS : ∀ {p q : Int}, isS s p → isS s q → p + 1 < s.length → q + 1 < s.length → rd s p = rd s q → R (p + 1) (q + 1) → R p q
/-- The row with large ones alone. -/
structure BaseS (s : List Int) (k : Int) (R : Int → Int → Prop) (T : Int → Int) (row : List Int) : Prop where
  len : row.length = s.length
  t0 : ∀ c, 0 ≤ c → c < k → st s k c ≤ T c ∧ T c ≤ st s k c + (posL s c).length
  some_ : ∀ c q, 0 ≤ c → c < k → st s k c ≤ q → q < T c → isL s (rd row q) ∧ rd s (rd row q) = c
  none_ : ∀ c q, 0 ≤ c → c < k → T c ≤ q → q < st s k (c + 1) → rd row q = -1
  once : Once row
  all : ∀ p : Int, isL s p → ∃ q : Int, 0 ≤ q ∧ q < s.length ∧ rd row q = p
  sorted : ∀ a b : Int, 0 ≤ a → a < b → b < s.length → 0 ≤ rd row a → 0 ≤ rd row b → R (rd row a) (rd row b)
structure SmallI (s : List Int) (k : Int) (R : Int → Int → Prop) (T : Int → Int) (row3 row E : List Int) (C : Int → Prop) : Prop where
  len : row.length = s.length
  elen : E.length = k.toNat
  hE : ∀ c, 0 ≤ c → c < k → st s k (c + 1) - (posS s c).length ≤ rd E c ∧ rd E c ≤ st s k (c + 1)
  placed : ∀ c q, 0 ≤ c → c < k → rd E c ≤ q → q < st s k (c + 1) → isS s (rd row q) ∧ rd s (rd row q) = c
  rest : ∀ c q, 0 ≤ c → c < k → st s k c ≤ q → q < rd E c → rd row q = rd row3 q
  once : Once row
  closed : ∀ p, isS s p → ((∃ q : Int, 0 ≤ q ∧ q < s.length ∧ rd row q = p) ↔ C p)
  sorted : ∀ a b : Int, 0 ≤ a → a < b → b < s.length → 0 ≤ rd row a → 0 ≤ rd row b → R (rd row a) (rd row b)
variable (hk : 0 ≤ k) (hs : ∀ x ∈ s, 0 ≤ x ∧ x < k) (hR : RelS s R)
variable {T : Int → Int} {row3 row E : List Int} {C : Int → Prop}
include hk hs in
include hk hs in
include hk hs hR in
/-- Which small ones are there when the row has been read from its end down to i. -/
def CS (s row : List Int) (i p : Int) : Prop := ∃ q : Int, i ≤ q ∧ q < s.length ∧ rd row q = p + 1
include hk hs in
include hk hs hR in
include hk hs in
include hk hs in
include hk hs in
end
end Go.Pure
/-
  Plain laws: induced sorting: the first small ones; all of it, asx a function. Own work.
-/
namespace Go.Pure
open Go Go.Eng
section
variable {s : List Int} {k : Int}
/-- The first small ones, laid from their row's end. -/
structure FirstI (s : List Int) (k : Int) (l : List Int) (row E : List Int) : Prop where
  len : row.length = s.length
  elen : E.length = k.toNat
  hE : ∀ c, 0 ≤ c → c < k → rd E c = st s k (c + 1) - (ofKey l s c).length
  vals : ∀ c u : Int, 0 ≤ c → c < k → 0 ≤ u → u < (ofKey l s c).length → rd row (rd E c + u) = rd (ofKey l s c) u
  none_ : ∀ c q, 0 ≤ c → c < k → st s k c ≤ q → q < rd E c → rd row q = -1
/-- May these be first ones? -/
def FirstOk (s l : List Int) : Prop := l.Nodup ∧ ∀ j ∈ l, (0 ≤ j ∧ j < s.length) ∧ fstB s j = true
variable {row E : List Int} {l : List Int} {j : Int}
theorem rd_get {l : List Int} {u : Nat} (h : u < l.length) : rd l (u : Int) = l[u] := by
  unfold rd
  rw [Int.toNat_natCast, List.getD_eq_getElem?_getD, List.getElem?_eq_getElem h]
  rfl
theorem rd_getI {l : List Int} {i : Int} (h0 : 0 ≤ i) (h : i < l.length) : rd l i = l[i.toNat]'(by omega) := by
  unfold rd
  rw [List.getD_eq_getElem?_getD, List.getElem?_eq_getElem (by omega)]
  rfl
theorem pairwise_rd {l : List Int} {r : Int → Int → Prop} (h : l.Pairwise r) {i j : Int} (h0 : 0 ≤ i) (hij : i < j) (hj : j < l.length) : r (rd l i) (rd l j) := by
  rw [rd_getI h0 (by omega), rd_getI (by omega) hj]
  exact List.pairwise_iff_getElem.1 h i.toNat j.toNat (by omega) (by omega) (by omega)
theorem rd_inj {l : List Int} (hd : l.Nodup) {i j : Int} (h0 : 0 ≤ i) (h : i < l.length) (g0 : 0 ≤ j) (g : j < l.length) (e : rd l i = rd l j) : i = j := by
  have hi : i.toNat < l.length := by omega
  have hj : j.toNat < l.length := by omega
  unfold rd at e
  rw [List.getD_eq_getElem?_getD, List.getD_eq_getElem?_getD, List.getElem?_eq_getElem hi, List.getElem?_eq_getElem hj] at e
  simp only [Option.getD_some] at e
  rcases Int.lt_trichotomy i j with a | a | a
  · exact absurd e (List.pairwise_iff_getElem.1 hd i.toNat j.toNat hi hj (by omega))
  · exact a
  · exact absurd e.symm (List.pairwise_iff_getElem.1 hd j.toNat i.toNat hj hi (by omega))
/-- The row with its small ones taken away. -/
def noS (s : List Int) (x : Int) : Int := if 0 ≤ x ∧ smB s x = true then -1 else x
def layF (s : List Int) (j : Int) (z : List Int × List Int) : List Int × List Int := (upd z.1 (rd z.2 (rd s j) - 1) j, upd z.2 (rd s j) (rd z.2 (rd s j) - 1))
def layL (s : List Int) (j : Int) (z : List Int × List Int) : List Int × List Int := (upd z.1 (rd z.2 (rd s j)) j, upd z.2 (rd s j) (rd z.2 (rd s j) + 1))
def stepL (s : List Int) (i : Int) (z : List Int × List Int) : List Int × List Int := if 0 < rd z.1 i ∧ smB s (rd z.1 i - 1) = false then layL s (rd z.1 i - 1) z else z
def stepS (s : List Int) (i : Int) (z : List Int × List Int) : List Int × List Int := if 0 < rd z.1 i ∧ smB s (rd z.1 i - 1) = true then layF s (rd z.1 i - 1) z else z
def endsV (cs : List Int) : List Int := (List.range cs.length).map fun i : Nat => ps cs ((i : Int) + 1)
def itF (s : List Int) (k : Int) (l : List Int) : List Int × List Int := l.foldr (layF s) (List.replicate s.length (-1), endsV (cntV s k))
def itL (s : List Int) (k : Int) (l : List Int) : Nat → List Int × List Int
  | 0 => layL s (s.length - 1) ((itF s k l).1, startsV (cntV s k))
  | i + 1 => stepL s i (itL s k l i)
def clrV (s row : List Int) : List Int := row.map (noS s)
def itS (s : List Int) (k : Int) (l : List Int) : Nat → List Int × List Int
  | 0 => (clrV s (itL s k l s.length).1, endsV (cntV s k))
  | m + 1 => stepS s (s.length - 1 - m) (itS s k l m)
/-- All places, by these first ones. -/
def indS (s : List Int) (k : Int) (l : List Int) : List Int := (itS s k l s.length).1
variable (hk : 0 ≤ k) (hs : ∀ x ∈ s, 0 ≤ x ∧ x < k)
include hk hs in
section
variable {R R' : Int → Int → Prop} (hR : RelL s R) (hR' : RelS s R') (hLL : ∀ p q, isL s p → isL s q → R p q → R' p q) (hσ : ∀ c, (ofKey l s c).Pairwise R)
include hk hs hR hσ in
include hk hs hR hσ hLL in
include hk hs hR hR' hσ hLL in
include hk hs hR hR' hσ hLL in
end
/-- The endings' own order, if the first ones are in it. -/
def RO (s l : List Int) (x y : Int) : Prop := l.Pairwise (ordE s) → ordE s x y
include hk hs in
include hk hs in
include hk hs in
include hk hs in
include hk hs in
end
end Go.Pure
/-
  Plain laws: induced sorting: what a walk asks of each step. Own work.
-/
namespace Go.Pure
open Go Go.Eng
section
variable {s : List Int} {k : Int} {l row E H V : List Int}
variable (hk : 0 ≤ k) (hs : ∀ x ∈ s, 0 ≤ x ∧ x < k)
include hk hs in
include hk hs in
include hk hs in
include hk hs in
include hk hs in
/-- The small ones are taken out, so far. -/
def clrP (s row : List Int) (i : Int) : List Int := (row.take i.toNat).map (noS s) ++ row.drop i.toNat
include hk hs in
include hk hs in
include hk hs in
include hk hs in
include hk hs in
/-- Of each place whether it is small. -/
def smL (s : List Int) : List Bool := (List.range s.length).map fun i : Nat => smB s (i : Int)
/-- The first ones, so far. -/
def fstP (s : List Int) (i : Int) : List Int := (iota i.toNat).filter fun i => fstB s i
end
end Go.Pure

/-! ## Q27 -/
/-
  Plain laws: pieces between the first small ones; their names; what order the names' endings say. Own work.
-/
namespace Go.Pure
open Go Go.Eng
section
variable {s : List Int} {k : Int}
theorem iota_inc (n : Nat) : (iota n).Pairwise (· < ·) := by
  unfold iota
  refine List.pairwise_map.2 (List.Pairwise.imp (fun h => ?_) List.pairwise_lt_range)
  omega
/-- A number with its kind; behind all: less than any. -/
def kk (s : List Int) (p : Int) : Int := if p < s.length then 2 * rd s p + (if smB s p = true then 1 else 0) else -1
def Nn (s : List Int) : Prop := ∀ x ∈ s, 0 ≤ x
/-- Up to the first one at x or behind it. -/
def pcL (s : List Int) (x y : Int) : Prop := ∀ d : Nat, (∀ i : Nat, i < d → kk s (x + i) = kk s (y + i) ∧ fstB s (x + i) = false) → kk s (x + d) ≤ kk s (y + d)
/-- Up to the first one behind x. -/
def pcS (s : List Int) (x y : Int) : Prop := ∀ d : Nat, (∀ i : Nat, i < d → kk s (x + i) = kk s (y + i) ∧ (0 < i → fstB s (x + i) = false)) → kk s (x + d) ≤ kk s (y + d)
def pcE (s : List Int) (x y : Int) : Prop := ∀ d : Nat, (∀ i : Nat, 0 < i → i < d → fstB s (x + i) = false) → kk s (x + d) = kk s (y + d)
/-- The next first one behind x, or the end. -/
structure NxI (s : List Int) (x z : Int) : Prop where
  gt : x < z
  le : z ≤ s.length
  no : ∀ q, x < q → q < z → fstB s q = false
  is : z < s.length → fstB s z = true
/-- The same pieces, asx the program asks. -/
def Peq (s nx : List Int) (x y : Int) : Prop := rd nx x < s.length ∧ rd nx y < s.length ∧ rd nx x - x = rd nx y - y ∧ ∀ i : Int, 0 ≤ i → i ≤ rd nx x - x → rd s (x + i) = rd s (y + i)
end
end Go.Pure
/-
  Plain laws: the names of pieces, asx the program makes them; what order their endings say. Own work.
-/
namespace Go.Pure
open Go Go.Eng
section
variable {s : List Int} {k : Int}
/-- Behind which place the next first one stands. -/
structure NxOk (s nx : List Int) (i : Int) : Prop where
  len : nx.length = s.length
  at_ : ∀ a : Int, 0 ≤ a → a < i → rd nx (rd (fstL s) a) = if a + 1 < (fstL s).length then rd (fstL s) (a + 1) else s.length
  no : ∀ j : Int, 0 ≤ j → j < s.length → fstB s j = false → rd nx j = 0
/-- Names given to the places read so far. -/
structure NamI (s ord nx : List Int) (t : Int) (nm : List Int) (n last : Int) : Prop where
  len : nm.length = s.length
  bd : 0 ≤ n ∧ n ≤ t
  start : last = -1 → n = 0 ∧ ∀ q : Int, 0 ≤ q → q < t → fstB s (rd ord q) = false
  last_ : last = -1 ∨ ∃ q : Int, 0 ≤ q ∧ q < t ∧ rd ord q = last ∧ fstB s last = true ∧ rd nm last = n ∧ ∀ r : Int, q < r → r < t → fstB s (rd ord r) = false
  rng : ∀ q : Int, 0 ≤ q → q < t → fstB s (rd ord q) = true → 0 ≤ rd nm (rd ord q) ∧ rd nm (rd ord q) ≤ n
  pair : ∀ q r : Int, 0 ≤ q → q < r → r < t → fstB s (rd ord q) = true → fstB s (rd ord r) = true → rd nm (rd ord q) ≤ rd nm (rd ord r) ∧ (rd nm (rd ord q) = rd nm (rd ord r) → Peq s nx (rd ord q) (rd ord r)) ∧ (rd nm (rd ord q) < rd nm (rd ord r) → ¬ pcE s (rd ord q) (rd ord r))
variable {ord nx nm : List Int} {t n last : Int}
end
end Go.Pure

/-! ## Q29 -/
/-
  Plain laws: what stands ahead of the endings, and back. Own work.
-/
namespace Go.Pure
open Go Go.Eng
/-- Of a row in order, each has so many ahead of it. -/
theorem rank_sorted {T : Int → Int → Prop} [DecidableRel T] (asy : ∀ x y, T x y → ¬ T y x) : ∀ {o : List Int} {q : Nat}, o.Pairwise T → (h : q < o.length) → o.countP (fun x => decide (T x o[q])) = q
  | [], q, _, h => by simp at h
  | a :: o, 0, hs, h => by
    rw [List.countP_eq_zero]
    intro x hx
    simp only [List.getElem_cons_zero, decide_eq_true_iff]
    rcases List.mem_cons.1 hx with rfl | hx
    · exact fun h => asy _ _ h h
    · exact asy _ _ ((List.pairwise_cons.1 hs).1 x hx)
  | a :: o, q + 1, hs, h => by
    obtain ⟨h1, h2⟩ := List.pairwise_cons.1 hs
    have hq : q < o.length := by simp only [List.length_cons] at h; omega
    simp only [List.getElem_cons_succ]
    rw [List.countP_cons_of_pos (by simpa using h1 _ (List.getElem_mem hq)), rank_sorted asy h2 hq]
theorem rank_at {T : Int → Int → Prop} [DecidableRel T] (asy : ∀ x y, T x y → ¬ T y x) {o : List Int} {n : Nat} (hp : o.Perm (iota n)) (hs : o.Pairwise T) {q : Int} (q0 : 0 ≤ q) (hq : q < n) : (((iota n).countP fun x => decide (T x (rd o q)) : Nat) : Int) = q := by
  have hl : o.length = n := by rw [hp.length_eq, iota_len]
  rw [← hp.countP_eq, rd_getI q0 (by omega), rank_sorted asy hs (by omega)]
  omega
theorem rd_iota {n : Nat} {q : Int} (q0 : 0 ≤ q) (hq : q < n) : rd (iota n) q = q := by
  unfold iota
  rw [rd_range q0 hq]
  omega
theorem bij_perm {n : Nat} {f : Int → Int} (hf : ∀ x : Int, 0 ≤ x → x < n → 0 ≤ f x ∧ f x < n) (hi : ∀ x y : Int, 0 ≤ x → x < n → 0 ≤ y → y < n → f x = f y → x = y) : ((iota n).map f).Perm (iota n) := by
  refine perm_all ?_ (fun x hx => ?_) (by simp)
  · refine List.pairwise_map.2 (List.Pairwise.imp_of_mem (fun {a b} ha hb hab e => ?_) (iota_nodup n))
    have h1 := mem_iota.1 ha
    have h2 := mem_iota.1 hb
    exact hab (hi a b h1.1 h1.2 h2.1 h2.2 e)
  · obtain ⟨y, hy, rfl⟩ := List.mem_map.1 hx
    have h := mem_iota.1 hy
    exact mem_iota.2 (hf y h.1 h.2)
/-- The order of letters: by the letter, then by the place. -/
def tl (l : List Int) (i k : Int) : Prop := rd l i < rd l k ∨ rd l i = rd l k ∧ i < k
instance (l : List Int) : DecidableRel (tl l) := fun i k => by unfold tl; infer_instance
theorem tl_as {l : List Int} (x y : Int) (h : tl l x y) : ¬ tl l y x := by unfold tl at *; omega
def lfC (l : List Int) (k : Int) : Int := ((iota l.length).countP fun j => decide (tl l j k) : Nat)
def Byt (l : List Int) : Prop := ∀ x ∈ l, 0 ≤ x ∧ x < 256
section
variable {l : List Int}
theorem lf_order (hl : Byt l) : (passK (iota l.length) l 256).Perm (iota l.length) ∧ (passK (iota l.length) l 256).Pairwise (tl l) :=
  ⟨passK_perm fun i hi => by have h := mem_iota.1 hi; exact hl _ (rd_mem h.1 h.2), passK_sorted (iota_inc _) 256⟩
theorem lf_at (hl : Byt l) {q : Int} (q0 : 0 ≤ q) (hq : q < l.length) : lfC l (rd (passK (iota l.length) l 256) q) = q := rank_at tl_as (lf_order hl).1 (lf_order hl).2 q0 hq
theorem lf_ix (hl : Byt l) {i : Int} (i0 : 0 ≤ i) (hi : i < l.length) : ∃ q : Int, 0 ≤ q ∧ q < l.length ∧ rd (passK (iota l.length) l 256) q = i ∧ lfC l i = q := by
  obtain ⟨u, hu, e⟩ := List.mem_iff_getElem.1 ((lf_order hl).1.symm.subset (mem_iota.2 ⟨i0, hi⟩))
  have hlen := (lf_order hl).1.length_eq
  rw [iota_len] at hlen
  have e2 : rd (passK (iota l.length) l 256) (u : Int) = i := by rw [rd_get hu]; exact e
  refine ⟨u, by omega, by omega, e2, ?_⟩
  rw [← e2]
  exact lf_at hl (by omega) (by omega)
theorem lf_bd (hl : Byt l) {i : Int} (i0 : 0 ≤ i) (hi : i < l.length) : 0 ≤ lfC l i ∧ lfC l i < l.length := by
  obtain ⟨q, q0, q1, _, e⟩ := lf_ix hl i0 hi
  omega
theorem lf_lt (hl : Byt l) {i k : Int} (i0 : 0 ≤ i) (hi : i < l.length) (k0 : 0 ≤ k) (hk : k < l.length) : lfC l i < lfC l k ↔ tl l i k := by
  obtain ⟨p, p0, p1, ep, fp⟩ := lf_ix hl i0 hi
  obtain ⟨q, q0, q1, eq, fq⟩ := lf_ix hl k0 hk
  have hlen := (lf_order hl).1.length_eq
  rw [iota_len] at hlen
  have hs := (lf_order hl).2
  rw [fp, fq]
  constructor
  · intro h
    have := pairwise_rd hs p0 h (by omega)
    rwa [ep, eq] at this
  · intro h
    rcases Int.lt_trichotomy p q with a | a | a
    · exact a
    · subst a
      rw [← ep, ← eq] at h
      exact absurd h (tl_as _ _ h)
    · have := pairwise_rd hs q0 a (by omega)
      rw [ep, eq] at this
      exact absurd h (tl_as _ _ this)
theorem lf_inj (hl : Byt l) {i k : Int} (i0 : 0 ≤ i) (hi : i < l.length) (k0 : 0 ≤ k) (hk : k < l.length) (e : lfC l i = lfC l k) : i = k := by
  have h1 := lf_lt hl i0 hi k0 hk
  have h2 := lf_lt hl k0 hk i0 hi
  unfold tl at h1 h2
  rcases Int.lt_trichotomy (rd l i) (rd l k) with a | a | a
  · have := h1.2 (.inl a); omega
  · rcases Int.lt_trichotomy i k with b | b | b
    · have := h1.2 (.inr ⟨a, b⟩); omega
    · exact b
    · have := h2.2 (.inr ⟨a.symm, b⟩); omega
  · have := h2.2 (.inl a); omega
/-- The row of the whole text. -/
def zat (a : List Int) : Int := if (0 : Int) ∈ a then (a.idxOf 0 : Int) + 1 else 0
def ofT (s a : List Int) : List Int := (a.filter fun x => decide (x ≠ 0)).map fun x => rd s (x - 1)
/-- The letters ahead of the endings. -/
def ofL (s a : List Int) : List Int := (if 0 < s.length then [rd s (s.length - 1)] else []) ++ ofT s a
variable {s a : List Int}
theorem rd_append_l {u v : List Int} {j : Int} (h0 : 0 ≤ j) (h : j < u.length) : rd (u ++ v) j = rd u j := by
  unfold rd
  rw [List.getD_eq_getElem?_getD, List.getD_eq_getElem?_getD, List.getElem?_append_left (by omega)]
theorem rd_append_r {u v : List Int} {j : Int} (h : (u.length : Int) ≤ j) : rd (u ++ v) j = rd v (j - u.length) := by
  unfold rd
  rw [List.getD_eq_getElem?_getD, List.getD_eq_getElem?_getD, List.getElem?_append_right (by omega), show j.toNat - u.length = (j - u.length).toNat by omega]
theorem rd_map {u : List Int} {f : Int → Int} {j : Int} (h0 : 0 ≤ j) (h : j < u.length) : rd (u.map f) j = f (rd u j) := by
  rw [rd_getI h0 (by rw [List.length_map]; exact h), List.getElem_map, ← rd_getI h0 h]
/-- The index of the letter of a row. -/
def ixr (m r : Int) : Int := if m < r then r - 1 else r
def bkRow (l : List Int) (m : Int) : Nat → Int
  | 0 => 0
  | t + 1 => lfC l (ixr m (bkRow l m t)) + 1
/-- The letters, from the first. -/
def bkOut (l : List Int) (m : Int) : List Int := (List.range l.length).map fun i : Nat => rd l (ixr m (bkRow l m (l.length - 1 - i)))
def BkPre (l : List Int) (m : Int) : Prop := min (l.length : Int) 1 ≤ m ∧ m ≤ l.length
def BkOn (l : List Int) (m : Int) : Prop := ∀ t : Nat, t < l.length → bkRow l m t ≠ m
def BkOk (l : List Int) (m : Int) : Prop := BkPre l m ∧ BkOn l m ∧ bkRow l m l.length = m
end
end Go.Pure
/-
  Plain laws: what is turned comes back; what comes back turns to it again. Own work.
-/
namespace Go.Pure
open Go Go.Eng
section
variable {l s a : List Int}
def cT (s : List Int) (x y : Int) : Prop := cmpL (s.drop x.toNat) (s.drop y.toNat) < 0
instance (s : List Int) : DecidableRel (cT s) := fun x y => by unfold cT; infer_instance
/-- How many endings come ahead; the row of an ending. -/
def posE (s : List Int) (k : Int) : Int := ((iota s.length).countP fun j => decide (cT s j k) : Nat)
def rowE (s : List Int) (k : Int) : Int := if k < s.length then posE s k + 1 else 0
end
end Go.Pure

/-! ## Q30 -/
namespace Go.Pure
open Go Go.Eng
section
variable {p : List Int}
/-- From k on, asx long asx nothing comes twice. -/
def walkC (p : List Int) : Nat → List Bool → Int → List Int × List Bool
  | 0, E, _ => ([], E)
  | f + 1, E, k => if rdb E k = true then ([], E) else (k :: (walkC p f (updB E k true) (rd p k)).1, (walkC p f (updB E k true) (rd p k)).2)
/-- How many have not come. -/
def cntF (E : List Bool) : Nat := E.countP fun b => !b
theorem cntF_rep (n : Nat) : cntF (List.replicate n false) = n := by unfold cntF; rw [List.countP_replicate]; simp
theorem cntF_upd {E : List Bool} {k : Int} (k0 : 0 ≤ k) (hk : k < E.length) (h : rdb E k ≠ true) : cntF (updB E k true) + 1 = cntF E := by
  have hlt : k.toNat < E.length := by omega
  have e : E[k.toNat] = false := by
    have h2 : rdb E k = E[k.toNat] := by unfold rdb; rw [List.getD_eq_getElem?_getD, List.getElem?_eq_getElem hlt]; rfl
    rw [h2] at h
    simpa using h
  unfold cntF updB
  rw [List.countP_set hlt, e]
  simp only [Bool.not_true, Bool.not_false, Bool.false_eq_true, if_false, if_true, Nat.add_zero]
  have : 0 < E.countP fun b => !b := List.countP_pos_iff.2 ⟨E[k.toNat], List.getElem_mem hlt, by rw [e]; rfl⟩
  omega
theorem walkC_seen {f : Nat} {E : List Bool} {k : Int} (h : rdb E k = true) : walkC p f E k = ([], E) := by
  cases f with
  | zero => rfl
  | succ f => rw [walkC, if_pos h]
theorem cntF_pos {E : List Bool} {k : Int} (k0 : 0 ≤ k) (hk : k < E.length) (h : rdb E k ≠ true) : 0 < cntF E := by have := cntF_upd k0 hk h; omega
theorem walkC_go {f : Nat} {E : List Bool} {k : Int} (k0 : 0 ≤ k) (hk : k < E.length) (hf : cntF E ≤ f) (h : rdb E k ≠ true) : walkC p f E k = (k :: (walkC p (f - 1) (updB E k true) (rd p k)).1, (walkC p (f - 1) (updB E k true) (rd p k)).2) := by
  have := cntF_pos k0 hk h
  obtain ⟨g, rfl⟩ : ∃ g, f = g + 1 := ⟨f - 1, by omega⟩
  rw [walkC, if_neg h]
  rfl
/-- The rings from the first i places. -/
def cycK (p : List Int) : Nat → List Bool × List (List Int)
  | 0 => (List.replicate p.length false, [])
  | i + 1 => ((walkC p p.length (cycK p i).1 i).2, if (walkC p p.length (cycK p i).1 i).1 = [] then (cycK p i).2 else (cycK p i).2 ++ [(walkC p p.length (cycK p i).1 i).1])
def cycL (p : List Int) : List (List Int) := (cycK p p.length).2
theorem walkC_facts (hp : p.Perm (iota p.length)) : ∀ (f : Nat) (E : List Bool) (k : Int), E.length = p.length → 0 ≤ k → k < p.length → (walkC p f E k).2.length = p.length ∧ (∀ x ∈ (walkC p f E k).1, 0 ≤ x ∧ x < p.length) ∧ (walkC p f E k).1.length + cntF (walkC p f E k).2 = cntF E
  | 0, E, k, hl, _, _ => And.intro hl (And.intro (fun x hx => absurd hx (List.not_mem_nil (a := x))) (Nat.zero_add _))
  | f + 1, E, k, hl, k0, hk => by
    rw [walkC]
    split
    · exact And.intro hl (And.intro (fun x hx => absurd hx (List.not_mem_nil (a := x))) (Nat.zero_add _))
    · rename_i h
      have hn := mem_iota.1 (hp.subset (rd_mem (L := p) k0 hk))
      have ih := walkC_facts hp f (updB E k true) (rd p k) (by rw [updB_len]; exact hl) hn.1 hn.2
      have hc := cntF_upd k0 (by omega) h
      refine ⟨ih.1, fun x hx => ?_, ?_⟩
      · rcases List.mem_cons.1 hx with rfl | hx
        · exact ⟨k0, hk⟩
        · exact ih.2.1 x hx
      · have := ih.2.2
        simp only [List.length_cons]
        omega
theorem cycK_facts (hp : p.Perm (iota p.length)) : ∀ i : Nat, i ≤ p.length → (cycK p i).1.length = p.length ∧ (∀ c ∈ (cycK p i).2, ∀ x ∈ c, 0 ≤ x ∧ x < p.length) ∧ (cycK p i).2.flatten.length + cntF (cycK p i).1 = p.length
  | 0, _ => ⟨by simp [cycK], fun c hc => (by cases hc), by simp [cycK, cntF_rep]⟩
  | i + 1, hi => by
    have ih := cycK_facts hp i (by omega)
    have hw := walkC_facts hp p.length (cycK p i).1 i ih.1 (by omega) (by omega)
    rw [cycK]
    refine ⟨hw.1, ?_, ?_⟩
    · intro c hc x hx
      split at hc
      · exact ih.2.1 c hc x hx
      · rcases List.mem_append.1 hc with hc | hc
        · exact ih.2.1 c hc x hx
        · obtain rfl := List.mem_singleton.1 hc
          exact hw.2.1 x hx
    · split
      · rename_i h
        have h2 := hw.2.2
        rw [h] at h2
        have := ih.2.2
        simp only [List.length_nil] at h2
        show (cycK p i).2.flatten.length + cntF (walkC p p.length (cycK p i).1 i).2 = p.length
        omega
      · rw [List.flatten_append, List.length_append]
        have h2 := hw.2.2
        have := ih.2.2
        simp only [List.flatten_cons, List.flatten_nil, List.append_nil]
        omega
theorem cycL_in (hp : p.Perm (iota p.length)) : ∀ c ∈ cycL p, ∀ x ∈ c, 0 ≤ x ∧ x < p.length := (cycK_facts hp p.length (Nat.le_refl _)).2.1
/-- A ring's letters, the last one first. -/
def wordC (l c : List Int) : List Int := c.reverse.map (rd l)
/-- What is read back: all rings, the last one first. -/
def backL (l : List Int) (cs : List (List Int)) : List Int := (cs.reverse.map (wordC l)).flatten
theorem wordC_len (l c : List Int) : (wordC l c).length = c.length := by simp [wordC]
end
end Go.Pure

/-! ## H1 -/
namespace Go.Proofs.Ytdfcnalkdlifiaa
open Go Go.Eng Go.Pure
set_option linter.unusedVariables false
def fsL (l : List Int) : List Int := (iota l.length).map (lfC l)
end Go.Proofs.Ytdfcnalkdlifiaa

/-! ## F7 -/
namespace Go.Proofs.Ytdfcnalkdlifiaa
open Go Go.Eng Go.Pure
set_option linter.unusedVariables false
set_option maxRecDepth 100000 in
theorem cloneP_ct {w : World} {A_l : Option Addr} {n_l c_l : Nat} {l : List (Int × Int)} (h_l : Rd w A_l n_l c_l 2 (prs l)) (hN : l.length ≤ 1000000) :
    Ct Try.prog 58 #[.slice A_l n_l c_l] w.heap.size w [] (fun v R' => ∃ A c, v = .slice A l.length c ∧ R' = [⟨51, 2, A, l.length, c, prs l, false⟩]) := by
  obtain rfl : n_l = l.length := by have := h_l.len; rw [prs_length] at this; omega
  refine fn1 Try.func58 rfl rfl rfl ?_
  refine w_seq ?_
  refine w_reg ?_
  refine wr_y rfl (y_assign rfl) ?_
  refine wr_nil ?_
  refine w_seq ?_
  refine w_seq ?_
  refine w_reg ?_
  refine wr_y rfl (y_move rfl) ?_
  refine wr_y rfl (y_slNil Try.underlying49 rfl rfl) ?_
  refine wr_nil ?_
  refine w_cond rfl (fun hc1 => ?_) (fun hc1 => ?_)
  ·
    refine w_seq ?_
    refine w_reg ?_
    refine wr_y rfl (y_assign rfl) ?_
    refine wr_nil ?_
    refine w_retR (R1 := [⟨51, 2, none, 0, 0, prs [], false⟩]) (fun _ h => h.nilP 51) ?_
    refine ⟨_, rfl, ?_⟩
    have hA : A_l = none := by simpa using hc1
    subst hA
    obtain rfl := prs_none h_l
    exact ⟨none, 0, rfl, rfl⟩
  ·
    refine w_skip ?_
    refine w_seq ?_
    refine w_reg ?_
    refine wr_a rfl (a_litP0 Try.underlying49 zs51) ?_
    rintro _ _ ⟨g_2, rfl, rfl⟩
    refine wr_y rfl (y_move rfl) ?_
    refine wr_a rfl (a_appendP 0 rfl Try.underlying49 zb51 rfl rfl rfl rfl (h_l.c _) (by omega)) ?_
    rintro _ _ ⟨A_3, c_4, rfl, rfl⟩
    refine wr_rows (R1 := [⟨51, 2, A_3, (0 + l.length), c_4, prs (([]) ++ l), false⟩]) rfl ?_
    refine wr_as (v := .slice A_3 (0 + l.length) c_4) rfl ?_
    refine wr_y rfl (y_assign rfl) ?_
    refine wr_nil ?_
    refine w_retR (R1 := [⟨51, 2, A_3, (0 + l.length), c_4, prs (([]) ++ l), false⟩]) (fun _ h => h) ?_
    refine ⟨_, rfl, ?_⟩
    simp only [Nat.zero_add, List.nil_append]
    exact ⟨_, _, rfl, rfl⟩

set_option maxRecDepth 100000 in
theorem turns_ct {w : World} {A_ws : Option Addr} {n_ws c_ws : Nat} {vals_ws : List Value} {ws : List (List Int)} (h_ws : Rd w A_ws n_ws c_ws 1 vals_ws) (s_ws : SlW .u8 w vals_ws ws) (hN : ws.flatten.length ≤ 400000 ∧ ws.length ≤ 1000000) :
    Ct Try.prog 36 #[.slice A_ws n_ws c_ws] w.heap.size w [] (fun v R' => ∃ (l : List (Int × Int)) (A : Option Addr) (c : Nat), v = .slice A l.length c ∧ l.Perm (tlist ws ws.length) ∧ l.Pairwise (ordO ws) ∧ R' = [⟨51, 2, A, l.length, c, prs l, false⟩]) := by
  obtain rfl : n_ws = ws.length := by have := h_ws.len; have := s_ws.1; omega
  refine fn1 Try.func36 rfl rfl rfl ?_
  have m_ws := h_ws.max
  have hfl := hN.1
  refine w_seq ?_
  refine w_reg ?_
  refine wr_y rfl (y_assign rfl) ?_
  refine wr_nil ?_
  refine w_seq ?_
  refine w_reg ?_
  refine wr_y rfl (y_move rfl) ?_
  refine wr_y rfl (y_build (v := .agg #[.slice A_ws ws.length c_ws, .slice none 0 0, .slice none 0 0, .slice none 0 0]) rfl (fun w => by kernel_rfl)) ?_
  refine wr_a rfl (a_box (sz := 4) rfl rfl) ?_
  rintro _ _ ⟨g_1, rfl, rfl⟩
  refine wr_sub (R1 := [⟨51, 2, none, 0, 0, prs ([]), false⟩, ⟨3, 1, none, 0, 0, ints .i64 ([]), false⟩, ⟨3, 1, none, 0, 0, ints .i64 ([]), false⟩, ⟨76, 4, (some ⟨g_1, 0, none⟩), 1, 1, [.slice A_ws ws.length c_ws, .slice none 0 0, .slice none 0 0, .slice none 0 0], false⟩]) (Sub.refl _) (fun _ h => ((h.nil 3 1).nil 3 1).nilP 51) ?_
  refine wr_y rfl (y_assign rfl) ?_
  refine wr_nil ?_
  refine w_seq ?_
  refine w_reg ?_
  refine wr_y rfl (y_assign rfl) ?_
  refine wr_nil ?_
  refine w_seq ?_
  refine w_seq ?_
  refine w_reg ?_
  refine wr_y rfl (y_move rfl) ?_
  refine wr_y rfl (y_len Try.underlying30 rfl) ?_
  refine wr_y rfl (y_move rfl) ?_
  refine wr_nil ?_
  refine w_block ?_
  refine w_loop14 (fun (k : Int) (lg : Int) (A1 : Option Addr) (n1 : Nat) (c1 : Nat) (T : List (Int × Int)) (A2 : Option Addr) (n2 : Nat) (c2 : Nat) (Bs : List Int) (A3 : Option Addr) (n3 : Nat) (c3 : Nat) (Rs : List Int) => [(3, .pointer (some ⟨g_1, 0, none⟩)), (4, .int .i64 lg), (16, .slice A_ws ws.length c_ws), (17, .int .i64 ((ws.length : Nat) : Int)), (18, .int .i64 k)]) (fun (k : Int) (lg : Int) (A1 : Option Addr) (n1 : Nat) (c1 : Nat) (T : List (Int × Int)) (A2 : Option Addr) (n2 : Nat) (c2 : Nat) (Bs : List Int) (A3 : Option Addr) (n3 : Nat) (c3 : Nat) (Rs : List Int) => [⟨51, 2, A1, n1, c1, prs T, false⟩, ⟨3, 1, A2, n2, c2, ints .i64 Bs, false⟩, ⟨3, 1, A3, n3, c3, ints .i64 Rs, false⟩, ⟨76, 4, (some ⟨g_1, 0, none⟩), 1, 1, [.slice A_ws ws.length c_ws, .slice A1 n1 c1, .slice A2 n2 c2, .slice A3 n3 c3], false⟩]) (fun (k : Int) (lg : Int) (A1 : Option Addr) (n1 : Nat) (c1 : Nat) (T : List (Int × Int)) (A2 : Option Addr) (n2 : Nat) (c2 : Nat) (Bs : List Int) (A3 : Option Addr) (n3 : Nat) (c3 : Nat) (Rs : List Int) => (0 ≤ k) ∧ (k ≤ ws.length) ∧ (0 ≤ lg ∧ lg ≤ 400000) ∧ (∀ w : Int, 0 ≤ w → w < k → ((rdl ws w).length : Int) ≤ lg) ∧ (lg = 0 ∧ offs ws k.toNat = 0 ∨ 0 < lg ∧ 0 < offs ws k.toNat) ∧ (T = tlist ws k.toNat) ∧ (n1 = offs ws k.toNat) ∧ (Bs = blist ws k.toNat) ∧ (n2 = k.toNat) ∧ (Rs = (ws.take k.toNat).flatten) ∧ (n3 = offs ws k.toNat)) (fun (k : Int) (lg : Int) (A1 : Option Addr) (n1 : Nat) (c1 : Nat) (T : List (Int × Int)) (A2 : Option Addr) (n2 : Nat) (c2 : Nat) (Bs : List Int) (A3 : Option Addr) (n3 : Nat) (c3 : Nat) (Rs : List Int) => (ws.length - k).toNat) ?_ ?_
  ·
    exact ⟨0, 0, none, 0, 0, [], none, 0, 0, [], none, 0, 0, [], ⟨(by omega), (by omega), (by omega), (fun w h0 h1 => by omega), (.inl ⟨rfl, rfl⟩), (rfl), (rfl), (rfl), (rfl), (rfl), (rfl)⟩, (Sub.cons rfl (Sub.cons rfl (Sub.cons rfl (Sub.cons rfl (Sub.cons rfl Sub.nil))))), fun _ h => h⟩
  intro k lg A1 n1 c1 T A2 n2 c2 Bs A3 n3 c3 Rs ⟨hk0, hk1, hg0, hlg, hge, hT, hnT, hBs, hnB, hRs, hnR⟩
  refine w_seq ?_
  refine w_reg ?_
  refine wr_y rfl (y_lt rfl rfl) ?_
  refine wr_nil ?_
  refine w_seq ?_
  refine w_if rfl (fun hc1 => ?_) (fun hc1 => ?_)
  ·
    have hofs := offs_succ hk0 (show k < ws.length by omega)
    have hole := offs_le ws (k + 1).toNat
    refine w_skip ?_
    refine w_seq ?_
    refine w_block ?_
    refine w_seq ?_
    refine w_reg ?_
    refine wr_y rfl (y_move rfl) ?_
    refine wr_y rfl (y_index1 Try.underlying30 sz22 rfl rfl (h_ws.c _) (by omega) (by omega)) ?_
    obtain ⟨A_2, c_3, hv_4, hr_5, hb_6, mhr_5⟩ := s_ws.at (i := k) (by omega) (by omega)
    refine wr_y rfl (y_ld Try.underlying22 rfl rfl rfl (h_ws.c _) hv_4) ?_
    refine wr_y rfl (y_assign rfl) ?_
    refine wr_y rfl (y_assign rfl) ?_
    refine wr_nil ?_
    refine w_seq ?_
    refine w_regd mixed ?_
    refine wd_y 0 rfl (by kernel_rfl) rfl (y_move rfl) ?_
    refine wd_y 1 rfl (by kernel_rfl) rfl (y_move rfl) ?_
    refine wd_y 2 rfl (by kernel_rfl) rfl (y_nilCheck rfl) ?_
    refine wd_y 3 rfl (by kernel_rfl) rfl (y_fieldAt (off := 2) (m := 2) Try.underlying76 rfl sz35 rfl rfl rfl) ?_
    refine wd_y 4 rfl (by kernel_rfl) rfl (y_ldIn (rdR 3 (r := ⟨76, 4, (some ⟨g_1, 0, none⟩), 1, 1, [.slice A_ws ws.length c_ws, .slice A1 n1 c1, .slice A2 n2 c2, .slice A3 n3 c3], false⟩) rfl) Try.underlying35 rfl rfl rfl) ?_
    refine wd_y 5 rfl (by kernel_rfl) rfl (y_move rfl) ?_
    refine wd_y 6 rfl (by kernel_rfl) rfl (y_nilCheck rfl) ?_
    refine wd_y 7 rfl (by kernel_rfl) rfl (y_fieldAt (off := 1) (m := 1) Try.underlying76 rfl sz49 rfl rfl rfl) ?_
    refine wd_y 8 rfl (by kernel_rfl) rfl (y_ldIn (rdR 3 (r := ⟨76, 4, (some ⟨g_1, 0, none⟩), 1, 1, [.slice A_ws ws.length c_ws, .slice A1 n1 c1, .slice A2 n2 c2, .slice A3 n3 c3], false⟩) rfl) Try.underlying49 rfl rfl rfl) ?_
    refine wd_y 9 rfl (by kernel_rfl) rfl (y_len Try.underlying49 rfl) ?_
    refine wd_a 10 rfl (by kernel_rfl) rfl (a_litI .i64 [((n1 : Nat) : Int)] Try.underlying35 zs3 rfl rfl rfl) ?_
    rintro _ _ ⟨g_8, rfl, rfl⟩
    refine ⟨.inr fun _ h => h.right (R' := [_]), ?_⟩
    refine wd_a 11 rfl (by kernel_rfl) rfl (a_appendI 2 rfl Try.underlying35 zb3 rfl rfl rfl (rdr 0 rfl) (by omega)) ?_
    rintro _ _ ⟨A_9, c_10, rfl, rfl⟩
    refine ⟨.inl (by kernel_rfl), ?_⟩
    refine wd_rows (R1 := [⟨3, 1, (some ⟨g_8, 0, none⟩), 1, 1, ints .i64 ([((n1 : Nat) : Int)]), false⟩, ⟨51, 2, A1, n1, c1, prs T, false⟩, ⟨3, 1, A_9, (n2 + 1), c_10, ints .i64 (Bs ++ ([((n1 : Nat) : Int)])), false⟩, ⟨3, 1, A3, n3, c3, ints .i64 Rs, false⟩, ⟨76, 4, (some ⟨g_1, 0, none⟩), 1, 1, [.slice A_ws ws.length c_ws, .slice A1 n1 c1, .slice A2 n2 c2, .slice A3 n3 c3], false⟩]) rfl ?_
    refine wd_as (v := .slice A_9 (n2 + 1) c_10) rfl ?_
    refine wd_y 12 rfl (by kernel_rfl) rfl (y_nilCheck rfl) ?_
    refine wd_y 13 rfl (by kernel_rfl) rfl (y_fieldAt (off := 2) (m := 2) Try.underlying76 rfl sz35 rfl rfl rfl) ?_
    refine wd_n 14 rfl (by kernel_rfl) (a_storeAt 4 rfl rfl rfl sz35 rfl rfl rfl rfl (Nat.le_of_ble_eq_true rfl)) ?_
    rintro _ _ rfl
    refine ⟨.inl (by kernel_rfl), ?_⟩
    refine wd_rows (R1 := [⟨3, 1, (some ⟨g_8, 0, none⟩), 1, 1, ints .i64 ([((n1 : Nat) : Int)]), false⟩, ⟨51, 2, A1, n1, c1, prs T, false⟩, ⟨3, 1, A_9, (n2 + 1), c_10, ints .i64 (Bs ++ ([((n1 : Nat) : Int)])), false⟩, ⟨3, 1, A3, n3, c3, ints .i64 Rs, false⟩, ⟨76, 4, (some ⟨g_1, 0, none⟩), 1, 1, [.slice A_ws ws.length c_ws, .slice A1 n1 c1, .slice A_9 (n2 + 1) c_10, .slice A3 n3 c3], false⟩]) rfl ?_
    refine wd_nil (by kernel_rfl) ?_
    refine w_seq ?_
    refine w_reg ?_
    refine wr_y rfl (y_move rfl) ?_
    refine wr_y rfl (y_move rfl) ?_
    refine wr_y rfl (y_len Try.underlying22 rfl) ?_
    refine wr_y rfl (y_max rfl rfl) ?_
    refine wr_y rfl (y_assign rfl) ?_
    refine wr_nil ?_
    refine w_seq ?_
    refine w_reg ?_
    refine wr_y rfl (y_move rfl) ?_
    refine wr_y rfl (y_len Try.underlying22 rfl) ?_
    refine wr_y rfl (y_move rfl) ?_
    refine wr_nil ?_
    refine w_block ?_
    refine w_loop9 (fun (j : Int) (B1 : Option Addr) (m1 : Nat) (d1 : Nat) (U : List (Int × Int)) (B3 : Option Addr) (m3 : Nat) (d3 : Nat) (V : List Int) => [(3, .pointer (some ⟨g_1, 0, none⟩)), (4, .int .i64 (max lg (((rdl ws k).length : Nat) : Int))), (5, .int .i64 k), (16, .slice A_ws ws.length c_ws), (17, .int .i64 ((ws.length : Nat) : Int)), (18, .int .i64 k), (41, .slice A_2 ((rdl ws k).length) c_3), (42, .int .i64 (((rdl ws k).length : Nat) : Int)), (43, .int .i64 j)]) (fun (j : Int) (B1 : Option Addr) (m1 : Nat) (d1 : Nat) (U : List (Int × Int)) (B3 : Option Addr) (m3 : Nat) (d3 : Nat) (V : List Int) => [⟨3, 1, (some ⟨g_8, 0, none⟩), 1, 1, ints .i64 ([((n1 : Nat) : Int)]), false⟩, ⟨51, 2, B1, m1, d1, prs U, false⟩, ⟨3, 1, A_9, (n2 + 1), c_10, ints .i64 (Bs ++ ([((n1 : Nat) : Int)])), false⟩, ⟨3, 1, B3, m3, d3, ints .i64 V, false⟩, ⟨76, 4, (some ⟨g_1, 0, none⟩), 1, 1, [.slice A_ws ws.length c_ws, .slice B1 m1 d1, .slice A_9 (n2 + 1) c_10, .slice B3 m3 d3], false⟩]) (fun (j : Int) (B1 : Option Addr) (m1 : Nat) (d1 : Nat) (U : List (Int × Int)) (B3 : Option Addr) (m3 : Nat) (d3 : Nat) (V : List Int) => (0 ≤ j) ∧ (j ≤ (rdl ws k).length) ∧ (U = tlist ws k.toNat ++ turnsOf k j.toNat) ∧ (m1 = offs ws k.toNat + j.toNat) ∧ (V = (ws.take k.toNat).flatten ++ (rdl ws k).take j.toNat) ∧ (m3 = offs ws k.toNat + j.toNat)) (fun (j : Int) (B1 : Option Addr) (m1 : Nat) (d1 : Nat) (U : List (Int × Int)) (B3 : Option Addr) (m3 : Nat) (d3 : Nat) (V : List Int) => ((rdl ws k).length - j).toNat) ?_ ?_
    ·
      exact ⟨0, A1, n1, c1, T, A3, n3, c3, Rs, ⟨(by omega), (by omega), (by rw [hT]; exact (List.append_nil _).symm), (hnT), (by rw [hRs]; exact (List.append_nil _).symm), (hnR)⟩, (Sub.cons rfl (Sub.cons rfl (Sub.cons rfl (Sub.cons rfl (Sub.cons rfl (Sub.cons rfl (Sub.cons rfl (Sub.cons rfl (Sub.cons rfl Sub.nil))))))))), fun _ h => h⟩
    intro j B1 m1 d1 U B3 m3 d3 V ⟨hj0, hj1, hU, hm1, hV, hm3⟩
    refine w_seq ?_
    refine w_reg ?_
    refine wr_y rfl (y_lt rfl rfl) ?_
    refine wr_nil ?_
    refine w_seq ?_
    refine w_if rfl (fun hc2 => ?_) (fun hc2 => ?_)
    ·
      refine w_skip ?_
      refine w_seq ?_
      refine w_block ?_
      refine w_seq ?_
      refine w_reg ?_
      refine wr_y rfl (y_move rfl) ?_
      refine wr_y rfl (y_index1 Try.underlying22 sz5 rfl rfl (hr_5.c _) (by omega) (by omega)) ?_
      refine wr_y rfl (y_ldI Try.underlying5 rfl rfl (hr_5.c _) (by omega) (by omega)) ?_
      refine wr_y rfl (y_assign rfl) ?_
      refine wr_y rfl (y_assign rfl) ?_
      refine wr_nil ?_
      refine w_seq ?_
      refine w_reg ?_
      refine wr_y rfl (y_move rfl) ?_
      refine wr_y rfl (y_move rfl) ?_
      refine wr_y rfl (y_nilCheck rfl) ?_
      refine wr_y rfl (y_fieldAt (off := 1) (m := 1) Try.underlying76 rfl sz49 rfl rfl rfl) ?_
      refine wr_y rfl (y_ldIn (rdR 4 (r := ⟨76, 4, (some ⟨g_1, 0, none⟩), 1, 1, [.slice A_ws ws.length c_ws, .slice B1 m1 d1, .slice A_9 (n2 + 1) c_10, .slice B3 m3 d3], false⟩) rfl) Try.underlying49 rfl rfl rfl) ?_
      refine wr_y rfl (y_move rfl) ?_
      refine wr_y rfl (y_move rfl) ?_
      refine wr_y rfl (y_build (v := .agg #[.int .i64 k, .int .i64 j]) rfl (fun w => by kernel_rfl)) ?_
      refine wr_a rfl (a_litP Try.underlying49 zs51 rfl) ?_
      rintro _ _ ⟨g_12, rfl, rfl⟩
      refine wr_a rfl (a_appendP 2 rfl Try.underlying49 zb51 rfl rfl rfl rfl (rdr 0 rfl) (by omega)) ?_
      rintro _ _ ⟨A_13, c_14, rfl, rfl⟩
      refine wr_rows (R1 := [⟨51, 2, (some ⟨g_12, 0, none⟩), 1, 1, prs ([(k, j)]), false⟩, ⟨3, 1, (some ⟨g_8, 0, none⟩), 1, 1, ints .i64 ([((n1 : Nat) : Int)]), false⟩, ⟨51, 2, A_13, (m1 + 1), c_14, prs (U ++ ([(k, j)])), false⟩, ⟨3, 1, A_9, (n2 + 1), c_10, ints .i64 (Bs ++ ([((n1 : Nat) : Int)])), false⟩, ⟨3, 1, B3, m3, d3, ints .i64 V, false⟩, ⟨76, 4, (some ⟨g_1, 0, none⟩), 1, 1, [.slice A_ws ws.length c_ws, .slice B1 m1 d1, .slice A_9 (n2 + 1) c_10, .slice B3 m3 d3], false⟩]) rfl ?_
      refine wr_as (v := .slice A_13 (m1 + 1) c_14) rfl ?_
      refine wr_y rfl (y_nilCheck rfl) ?_
      refine wr_y rfl (y_fieldAt (off := 1) (m := 1) Try.underlying76 rfl sz49 rfl rfl rfl) ?_
      refine wr_n (a_storeAt 5 rfl rfl rfl sz49 rfl rfl rfl rfl (Nat.le_of_ble_eq_true rfl)) ?_
      rintro _ _ rfl
      refine wr_rows (R1 := [⟨51, 2, (some ⟨g_12, 0, none⟩), 1, 1, prs ([(k, j)]), false⟩, ⟨3, 1, (some ⟨g_8, 0, none⟩), 1, 1, ints .i64 ([((n1 : Nat) : Int)]), false⟩, ⟨51, 2, A_13, (m1 + 1), c_14, prs (U ++ ([(k, j)])), false⟩, ⟨3, 1, A_9, (n2 + 1), c_10, ints .i64 (Bs ++ ([((n1 : Nat) : Int)])), false⟩, ⟨3, 1, B3, m3, d3, ints .i64 V, false⟩, ⟨76, 4, (some ⟨g_1, 0, none⟩), 1, 1, [.slice A_ws ws.length c_ws, .slice A_13 (m1 + 1) c_14, .slice A_9 (n2 + 1) c_10, .slice B3 m3 d3], false⟩]) rfl ?_
      refine wr_nil ?_
      refine w_reg ?_
      refine wr_y rfl (y_move rfl) ?_
      refine wr_y rfl (y_move rfl) ?_
      refine wr_y rfl (y_nilCheck rfl) ?_
      refine wr_y rfl (y_fieldAt (off := 3) (m := 3) Try.underlying76 rfl sz35 rfl rfl rfl) ?_
      refine wr_y rfl (y_ldIn (rdR 5 (r := ⟨76, 4, (some ⟨g_1, 0, none⟩), 1, 1, [.slice A_ws ws.length c_ws, .slice A_13 (m1 + 1) c_14, .slice A_9 (n2 + 1) c_10, .slice B3 m3 d3], false⟩) rfl) Try.underlying35 rfl rfl rfl) ?_
      refine wr_y rfl (y_move rfl) ?_
      refine wr_y rfl (y_convI Try.underlying5 Try.underlying3 rfl (by have hby := (byteL_wf (by assumption : ∀ x ∈ rdl ws k, (Lit.int .u8 x).wf = true)).rd j; omega)) ?_
      refine wr_a rfl (a_litI .i64 [rd (rdl ws k) j] Try.underlying35 zs3 rfl rfl rfl) ?_
      rintro _ _ ⟨g_16, rfl, rfl⟩
      refine wr_a rfl (a_appendI 5 rfl Try.underlying35 zb3 rfl rfl rfl (rdr 0 rfl) (by omega)) ?_
      rintro _ _ ⟨A_17, c_18, rfl, rfl⟩
      refine wr_rows (R1 := [⟨3, 1, (some ⟨g_16, 0, none⟩), 1, 1, ints .i64 ([rd (rdl ws k) j]), false⟩, ⟨51, 2, (some ⟨g_12, 0, none⟩), 1, 1, prs ([(k, j)]), false⟩, ⟨3, 1, (some ⟨g_8, 0, none⟩), 1, 1, ints .i64 ([((n1 : Nat) : Int)]), false⟩, ⟨51, 2, A_13, (m1 + 1), c_14, prs (U ++ ([(k, j)])), false⟩, ⟨3, 1, A_9, (n2 + 1), c_10, ints .i64 (Bs ++ ([((n1 : Nat) : Int)])), false⟩, ⟨3, 1, A_17, (m3 + 1), c_18, ints .i64 (V ++ ([rd (rdl ws k) j])), false⟩, ⟨76, 4, (some ⟨g_1, 0, none⟩), 1, 1, [.slice A_ws ws.length c_ws, .slice A_13 (m1 + 1) c_14, .slice A_9 (n2 + 1) c_10, .slice B3 m3 d3], false⟩]) rfl ?_
      refine wr_as (v := .slice A_17 (m3 + 1) c_18) rfl ?_
      refine wr_y rfl (y_nilCheck rfl) ?_
      refine wr_y rfl (y_fieldAt (off := 3) (m := 3) Try.underlying76 rfl sz35 rfl rfl rfl) ?_
      refine wr_n (a_storeAt 6 rfl rfl rfl sz35 rfl rfl rfl rfl (Nat.le_of_ble_eq_true rfl)) ?_
      rintro _ _ rfl
      refine wr_rows (R1 := [⟨3, 1, (some ⟨g_16, 0, none⟩), 1, 1, ints .i64 ([rd (rdl ws k) j]), false⟩, ⟨51, 2, (some ⟨g_12, 0, none⟩), 1, 1, prs ([(k, j)]), false⟩, ⟨3, 1, (some ⟨g_8, 0, none⟩), 1, 1, ints .i64 ([((n1 : Nat) : Int)]), false⟩, ⟨51, 2, A_13, (m1 + 1), c_14, prs (U ++ ([(k, j)])), false⟩, ⟨3, 1, A_9, (n2 + 1), c_10, ints .i64 (Bs ++ ([((n1 : Nat) : Int)])), false⟩, ⟨3, 1, A_17, (m3 + 1), c_18, ints .i64 (V ++ ([rd (rdl ws k) j])), false⟩, ⟨76, 4, (some ⟨g_1, 0, none⟩), 1, 1, [.slice A_ws ws.length c_ws, .slice A_13 (m1 + 1) c_14, .slice A_9 (n2 + 1) c_10, .slice A_17 (m3 + 1) c_18], false⟩]) rfl ?_
      refine wr_nil ?_
      refine w_reg ?_
      refine wr_y rfl (y_addI rfl rfl (by omega)) ?_
      refine wr_y rfl (y_move rfl) ?_
      refine wr_nil ?_
      exact ⟨j + 1, A_13, (m1 + 1), c_14, U ++ ([(k, j)]), A_17, (m3 + 1), c_18, V ++ ([rd (rdl ws k) j]), ⟨(by omega), (by omega), (by rw [hU, turnsOf_succ k hj0, List.append_assoc]), (by omega), (by rw [hV, List.append_assoc, take_rd hj0 (by omega)]), (by omega)⟩, (by omega), (Sub.cons rfl (Sub.cons rfl (Sub.cons rfl (Sub.cons rfl (Sub.cons rfl (Sub.cons rfl (Sub.cons rfl (Sub.cons rfl (Sub.cons rfl Sub.nil))))))))), fun _ h => h.sel [2, 3, 4, 5, 6] (by decide) rfl⟩
    ·
      refine w_exit ?_
      refine w_reg ?_
      refine wr_y rfl (y_addI rfl rfl (by omega)) ?_
      refine wr_y rfl (y_move rfl) ?_
      refine wr_nil ?_
      exact ⟨k + 1, max lg (((rdl ws k).length : Nat) : Int), B1, m1, d1, U, A_9, (n2 + 1), c_10, Bs ++ ([((n1 : Nat) : Int)]), B3, m3, d3, V, ⟨(by omega), (by omega), (by omega), (fun w h0 h1 => by
            by_cases hw : w = k
            · rw [hw]; omega
            · have := hlg w h0 (by omega); omega), (by have hofs := offs_succ hk0 (show k < ws.length by omega); omega), (by have hj : j.toNat = (rdl ws k).length := (by omega); rw [hU, hj, tlist_succ hk0]), (by rw [hm1, offs_succ hk0 (by omega)]; omega), (by rw [hBs, blist_succ hk0, hnT]), (by omega), (by have hj : j.toNat = (rdl ws k).length := (by omega); rw [hV, hj, List.take_length, flat_take_succ hk0 (by omega)]), (by rw [hm3, offs_succ hk0 (by omega)]; omega)⟩, (by omega), (Sub.cons rfl (Sub.cons rfl (Sub.cons rfl (Sub.cons rfl (Sub.cons rfl Sub.nil))))), fun _ h => h.sel [1, 2, 3, 4] (by decide) rfl⟩
  ·
    have hke : k = ws.length := by omega
    have hkn : k.toNat = ws.length := by omega
    rw [hkn] at hT hBs hRs hnT hnB hnR hge
    rw [List.take_length] at hRs
    have hoT := tlist_len ws ws.length (Nat.le_refl _)
    have hoB := blist_len ws ws.length
    have hoR : offs ws ws.length = ws.flatten.length := by unfold offs; rw [List.take_length]
    obtain rfl : n1 = T.length := by rw [hT]; omega
    obtain rfl : n2 = Bs.length := by rw [hBs]; omega
    obtain rfl : n3 = Rs.length := by rw [hRs]; omega
    have hTl : T.length ≤ 1000000 := by rw [hT]; omega
    refine w_exit ?_
    refine w_seq ?_
    refine w_reg ?_
    refine wr_y rfl (y_move rfl) ?_
    refine wr_y rfl (y_nilCheck rfl) ?_
    refine wr_y rfl (y_fieldAt (off := 1) (m := 1) Try.underlying76 rfl sz49 rfl rfl rfl) ?_
    refine wr_y rfl (y_ldIn (rdR 3 (r := ⟨76, 4, (some ⟨g_1, 0, none⟩), 1, 1, [.slice A_ws ws.length c_ws, .slice A1 T.length c1, .slice A2 Bs.length c2, .slice A3 Rs.length c3], false⟩) rfl) Try.underlying49 rfl rfl rfl) ?_
    refine wr_a rfl (a_callF en58 rfl (Ct.fresh (fun w hw => cloneP_ct ((rdr 0 rfl) w hw) hTl))) ?_
    rintro _ _ ⟨_, rfl, A_19, c_20, rfl, rfl⟩
    refine wr_y rfl (y_assign rfl) ?_
    refine wr_nil ?_
    refine w_seq ?_
    refine w_reg ?_
    refine wr_y rfl (y_assign rfl) ?_
    refine wr_nil ?_
    refine w_seq ?_
    refine w_seq ?_
    refine w_reg ?_
    refine wr_y rfl (y_assign rfl) ?_
    refine wr_nil ?_
    refine w_block ?_
    refine w_loop6 (fun (h : Int) (was : Int) (l : List (Int × Int)) (A4 : Option Addr) (c4 : Nat) (rs : List Int) => [(3, .pointer (some ⟨g_1, 0, none⟩)), (4, .int .i64 lg), (9, .slice A_19 T.length c_20), (10, .int .i64 was), (11, .int .i64 h)]) (fun (h : Int) (was : Int) (l : List (Int × Int)) (A4 : Option Addr) (c4 : Nat) (rs : List Int) => [⟨51, 2, A_19, T.length, c_20, prs l, false⟩, ⟨51, 2, A1, T.length, c1, prs T, false⟩, ⟨3, 1, A2, Bs.length, c2, ints .i64 Bs, false⟩, ⟨3, 1, A4, Rs.length, c4, ints .i64 rs, false⟩, ⟨76, 4, (some ⟨g_1, 0, none⟩), 1, 1, [.slice A_ws ws.length c_ws, .slice A1 T.length c1, .slice A2 Bs.length c2, .slice A4 Rs.length c4], false⟩]) (fun (h : Int) (was : Int) (l : List (Int × Int)) (A4 : Option Addr) (c4 : Nat) (rs : List Int) => (0 ≤ h) ∧ (l.Perm T) ∧ (rs.length = Rs.length) ∧ (RK ws Bs (curH h) rs) ∧ (0 < h → Sorted ws (curH h) l ∧ Go.Pure.Steps Bs rs l was)) (fun (h : Int) (was : Int) (l : List (Int × Int)) (A4 : Option Addr) (c4 : Nat) (rs : List Int) => (2 * lg - h).toNat) ?_ ?_
    ·
      exact ⟨0, -1, T, A3, c3, Rs, ⟨(by omega), (.refl _), (rfl), (by rw [hRs, hBs]; exact rk_first ws), (fun h => absurd h (by omega))⟩, (Sub.cons rfl (Sub.cons rfl (Sub.cons rfl (Sub.cons rfl (Sub.cons rfl Sub.nil))))), fun _ h => h⟩
    intro h was l A4 c4 rs ⟨hh0, hlp, hrl, hRK, hst⟩
    have htv : ∀ t ∈ l, TV ws t := fun t ht => mem_all.1 (by rw [← hT]; exact hlp.mem_iff.1 ht)
    have hvv : ∀ t ∈ l, TOk ws Bs rs.length t := fun t ht => by rw [hrl, hRs, hBs]; exact all_tok (by omega) (htv t ht)
    have hij : ∀ t ∈ l, ∀ u ∈ l, posT Bs t = posT Bs u → t = u := fun t ht u hu e => posT_inj (htv t ht) (htv u hu) (by rw [← hBs]; exact e)
    have hnd : l.Nodup := hlp.nodup_iff.2 (by rw [hT]; exact tlist_nodup ws _)
    have hrs : Rs.length = ws.flatten.length := by rw [hRs]
    have hll := hlp.length_eq
    have hTo : T.length = offs ws ws.length := by rw [hT]; exact hoT
    refine w_seq ?_
    refine w_seq ?_
    refine w_reg ?_
    refine wr_y rfl (y_move rfl) ?_
    refine wr_y rfl (y_move rfl) ?_
    refine wr_y rfl (y_mulI rfl rfl (by omega)) ?_
    refine wr_y rfl (y_lt rfl rfl) ?_
    refine wr_nil ?_
    refine w_if rfl (fun hc3 => ?_) (fun hc3 => ?_)
    ·
      have hne : l ≠ [] := fun e => by rw [e] at hll; simp only [List.length_nil] at hll; omega
      refine w_skip ?_
      refine w_seq ?_
      refine w_block ?_
      refine w_seq ?_
      refine w_reg ?_
      refine wr_y rfl (y_move rfl) ?_
      refine wr_y rfl (y_move rfl) ?_
      refine wr_y rfl (y_move rfl) ?_
      refine wr_sub (R1 := [⟨76, 4, (some ⟨g_1, 0, none⟩), 1, 1, [.slice A_ws ws.length c_ws, .slice A1 T.length c1, .slice A2 Bs.length c2, .slice A4 Rs.length c4], false⟩, ⟨51, 2, A_19, T.length, c_20, prs l, false⟩, ⟨3, 1, A2, Bs.length, c2, ints .i64 Bs, false⟩, ⟨3, 1, A4, Rs.length, c4, ints .i64 rs, false⟩, ⟨51, 2, A1, T.length, c1, prs T, false⟩]) (Sub.refl _) (fun _ h => h.sel [4, 0, 2, 3, 1] (by decide) rfl) ?_
      refine wr_a rfl (a_callF en59 rfl (doubles_ct (bs := Bs) (rs := rs) (ts := l) hll.symm rfl hrl.symm (h_ws.c _) (fun w hw => s_ws.c hw) hvv hij hnd hne ⟨by omega, by omega⟩ ⟨hh0, by omega⟩)) ?_
      rintro _ _ ⟨l_23, rk_24, A_21, c_22, rfl, hp_l_23, hs_l_23, hl_rk_24, hr_rk_24, rfl⟩
      have hs2 : Sorted ws (nextH h) l_23 := ⟨fun t ht => htv t (hp_l_23.mem_iff.1 ht), hp_l_23.nodup_iff.2 hnd, hs_l_23.imp_of_mem fun {x y} hx hy hn ho => hn ((tcmp_ord hh0 hRK (htv y (hp_l_23.mem_iff.1 hy)) (htv x (hp_l_23.mem_iff.1 hx))).2 ho)⟩
      have hall2 : ∀ t, TV ws t → t ∈ l_23 := fun t ht => hp_l_23.mem_iff.2 (hlp.mem_iff.2 (by rw [hT]; exact mem_all.2 ht))
      have hRK2 := rk_next hh0 hRK hs2 hall2 hr_rk_24
      have hst2 := steps_next hh0 hRK hs2 hr_rk_24
      have hcl := hp_l_23.length_eq
      refine wr_rows (R1 := [⟨76, 4, (some ⟨g_1, 0, none⟩), 1, 1, [.slice A_ws ws.length c_ws, .slice A1 T.length c1, .slice A2 Bs.length c2, .slice A_21 Rs.length c_22], false⟩, ⟨51, 2, A_19, T.length, c_20, prs l_23, false⟩, ⟨3, 1, A2, Bs.length, c2, ints .i64 Bs, false⟩, ⟨3, 1, A_21, Rs.length, c_22, ints .i64 rk_24, false⟩, ⟨51, 2, A1, T.length, c1, prs T, false⟩]) rfl ?_
      refine wr_y rfl (y_assign rfl) ?_
      refine wr_nil ?_
      refine w_seq ?_
      refine w_seq ?_
      refine w_reg ?_
      refine wr_y rfl (y_move rfl) ?_
      refine wr_y rfl (y_move rfl) ?_
      refine wr_y rfl (y_eq rfl rfl) ?_
      refine wr_y rfl (y_move rfl) ?_
      refine wr_mid 3 [(3, .pointer (some ⟨g_1, 0, none⟩)), (4, .int .i64 lg), (9, .slice A_19 T.length c_20), (11, .int .i64 h), (12, .int .i64 (clsF ws Bs rs h l_23 (l_23.length - 1))), (95, .bool (decide (((clsF ws Bs rs h l_23 (l_23.length - 1)) = was) ∧ (0 < h))))] [⟨76, 4, (some ⟨g_1, 0, none⟩), 1, 1, [.slice A_ws ws.length c_ws, .slice A1 T.length c1, .slice A2 Bs.length c2, .slice A_21 Rs.length c_22], false⟩, ⟨51, 2, A_19, T.length, c_20, prs l_23, false⟩, ⟨3, 1, A2, Bs.length, c2, ints .i64 Bs, false⟩, ⟨3, 1, A_21, Rs.length, c_22, ints .i64 rk_24, false⟩, ⟨51, 2, A1, T.length, c1, prs T, false⟩] ?_ ?_
      ·
        refine wr_case 92 rfl (fun hc4 => ?_) (fun hc4 => ?_)
        ·
          refine wr_yes rfl rfl ?_
          refine wr_y rfl (y_move rfl) ?_
          refine wr_yes rfl rfl ?_
          refine wr_y rfl (y_gt rfl rfl) ?_
          refine wr_y rfl (y_pickT rfl rfl) ?_
          refine wr_nil ?_
          exact ⟨(Sub.cons rfl (Sub.cons rfl (Sub.cons rfl (Sub.cons rfl (Sub.cons rfl (Sub.to rfl (mb (by first | omega | exact ⟨fun h => ⟨(by assumption), h⟩, fun h => h.2⟩ | simp [*])) Sub.nil)))))), fun _ h => h⟩
        ·
          refine wr_no rfl rfl rfl rfl ?_
          refine wr_no rfl rfl rfl rfl ?_
          refine wr_y rfl (y_pickF rfl rfl) ?_
          refine wr_nil ?_
          exact ⟨(Sub.cons rfl (Sub.cons rfl (Sub.cons rfl (Sub.cons rfl (Sub.cons rfl (Sub.to rfl (mb_f (by first | omega | exact ⟨fun h => ⟨(by assumption), h⟩, fun h => h.2⟩ | simp [*])) Sub.nil)))))), fun _ h => h⟩
      refine wr_nil ?_
      refine w_if rfl (fun hc5 => ?_) (fun hc5 => ?_)
      ·
        refine w_exit ?_
        refine w_seq ?_
        refine w_reg ?_
        refine wr_y rfl (y_move rfl) ?_
        refine wr_y rfl (y_assign rfl) ?_
        refine wr_nil ?_
        refine w_retR (R1 := [⟨51, 2, A_19, T.length, c_20, prs l_23, false⟩]) (fun _ h => h.sel [1] (by decide) rfl) ?_
        refine ⟨_, rfl, ?_⟩
        have hle : T.length = l_23.length := by omega
        rw [hle]
        refine ⟨l_23, _, _, rfl, ?_, ?_, rfl⟩
        · rw [← hT]; exact hp_l_23.trans hlp
        · exact stay hc5.2 hRK hs2 hall2 hp_l_23 (hst hc5.2).2 hc5.1
      ·
        refine w_skip ?_
        refine w_reg ?_
        refine wr_y rfl (y_move rfl) ?_
        refine wr_y rfl (y_assign rfl) ?_
        refine wr_nil ?_
        refine w_reg ?_
        refine wr_y rfl (y_move rfl) ?_
        refine wr_y rfl (y_mulI rfl rfl (by omega)) ?_
        refine wr_y rfl (y_max rfl rfl) ?_
        refine wr_y rfl (y_assign rfl) ?_
        refine wr_nil ?_
        exact ⟨max 1 (2 * h), clsF ws Bs rs h l_23 (l_23.length - 1), l_23, A_21, c_22, rk_24, ⟨(by omega), (hp_l_23.trans hlp), (by omega), (by have e : curH (max 1 (2 * h)) = nextH h := (by unfold curH nextH; split <;> omega); rw [e]; exact hRK2), (fun _ => by have e : curH (max 1 (2 * h)) = nextH h := (by unfold curH nextH; split <;> omega); rw [e]; exact ⟨hs2, hst2⟩)⟩, (by omega), (Sub.cons rfl (Sub.cons rfl (Sub.cons rfl (Sub.cons rfl (Sub.cons rfl Sub.nil))))), fun _ h => h.sel [1, 4, 2, 3, 0] (by decide) rfl⟩
    ·
      refine w_exit ?_
      refine w_seq ?_
      refine w_reg ?_
      refine wr_y rfl (y_move rfl) ?_
      refine wr_y rfl (y_assign rfl) ?_
      refine wr_nil ?_
      refine w_retR (R1 := [⟨51, 2, A_19, T.length, c_20, prs l, false⟩]) (fun _ h => h.sel [0] (by decide) rfl) ?_
      refine ⟨_, rfl, ?_⟩
      have hle : T.length = l.length := by omega
      rw [hle]
      refine ⟨l, _, _, rfl, ?_, ?_, rfl⟩
      · rw [← hT]; exact hlp
      · by_cases h0 : 0 < h
        · refine (hst h0).1.toO fun t u ht hu e => eq_all_long ht hu ?_ e
          have a := hlg t.1 ht.1 (by rw [hke]; exact ht.2.1)
          have b := hlg u.1 hu.1 (by rw [hke]; exact hu.2.1)
          unfold curH
          omega
        · have hl0 : l = [] := List.eq_nil_of_length_eq_zero (by omega)
          rw [hl0]
          exact .nil

end Go.Proofs.Ytdfcnalkdlifiaa

/-! ## F9 -/
namespace Go.Proofs.Ytdfcnalkdlifiaa
open Go Go.Eng Go.Pure
set_option linter.unusedVariables false
end Go.Proofs.Ytdfcnalkdlifiaa

/-! ## F10 -/
namespace Go.Proofs.Ytdfcnalkdlifiaa
open Go Go.Eng Go.Pure
set_option linter.unusedVariables false
end Go.Proofs.Ytdfcnalkdlifiaa

/-! ## Q18 -/
namespace Go.Pure
open Go Go.Eng
def cntOf (c : Int) (l : List Int) : Int := ((l.filter fun x => decide (x = c)).length : Int)
def CntI (u m : List Int) (i : Int) (V : List Int) : Prop := ∀ c : Int, 0 ≤ c → c < 256 → rd V c = cntOf c (u.take i.toNat) - cntOf c (m.take i.toNat)
section
variable {u m V : List Int} {i : Int}
end
theorem rd_mapP {l : List (Int × Int)} {f : Int × Int → Int} {i : Int} (h0 : 0 ≤ i) (h : i < l.length) : rd (l.map f) i = f (rdp l i) := by
  unfold rd rdp
  rw [List.getD_eq_getElem?_getD, List.getD_eq_getElem?_getD, List.getElem?_map, List.getElem?_eq_getElem (by omega)]
  rfl
end Go.Pure

/-! ## E17 -/
namespace Go.Eng
open Go Go.RowKit
section
variable {P : Program} {n : Nd} {B : Nat} {w0 : World} {L : Env} {R : List Row} {ty : TypeId}
end
end Go.Eng

/-! ## F11 -/
namespace Go.Proofs.Ytdfcnalkdlifiaa
open Go Go.Eng Go.Pure
set_option linter.unusedVariables false
end Go.Proofs.Ytdfcnalkdlifiaa

/-! ## V2 -/
namespace Go.Proofs.Ytdfcnalkdlifiaa
open Go Go.Eng Go.RowKit Go.Shelf Go.Proofs
attribute [local go_sem] Oper.semAt_some
end Go.Proofs.Ytdfcnalkdlifiaa

/-! ## Q31 -/
namespace Go.Pure
open Go Go.Eng
section
variable {p : List Int}
theorem walkC_keeps {j : Int} (j0 : 0 ≤ j) : ∀ (f : Nat) (E : List Bool) (k : Int), (hp : p.Perm (iota p.length)) → E.length = p.length → 0 ≤ k → k < p.length → rdb E j = true → rdb (walkC p f E k).2 j = true
  | 0, E, k, _, _, _, _, h => h
  | f + 1, E, k, hp, hl, k0, hk, h => by
    rw [walkC]
    split
    · exact h
    · have hn := mem_iota.1 (hp.subset (rd_mem (L := p) k0 hk))
      refine walkC_keeps j0 f _ _ hp (by rw [updB_len]; exact hl) hn.1 hn.2 ?_
      rw [rdb_upd k0 (by omega) j0]
      split
      · rfl
      · exact h
theorem walkC_marks (hp : p.Perm (iota p.length)) {f : Nat} {E : List Bool} {k : Int} (hl : E.length = p.length) (k0 : 0 ≤ k) (hk : k < p.length) (hf : cntF E ≤ f) : rdb (walkC p f E k).2 k = true := by
  by_cases h : rdb E k = true
  · rw [walkC_seen h]; exact h
  · rw [walkC_go k0 (by omega) hf h]
    have hn := mem_iota.1 (hp.subset (rd_mem (L := p) k0 hk))
    exact walkC_keeps k0 _ _ _ hp (by rw [updB_len]; exact hl) hn.1 hn.2 (by rw [rdb_upd k0 (by omega) k0, if_pos rfl])
theorem cycK_seen (hp : p.Perm (iota p.length)) : ∀ i : Nat, i ≤ p.length → ∀ j : Nat, j < i → rdb (cycK p i).1 j = true
  | 0, _, j, hj => by omega
  | i + 1, hi, j, hj => by
    have hf := cycK_facts hp i (by omega)
    have hc : cntF (cycK p i).1 ≤ p.length := by have := hf.2.2; omega
    rw [cycK]
    rcases Nat.lt_or_ge j i with g | g
    · exact walkC_keeps (by omega) _ _ _ hp hf.1 (by omega) (by omega) (cycK_seen hp i (by omega) j g)
    · obtain rfl : j = i := by omega
      exact walkC_marks hp hf.1 (by omega) (by omega) hc
theorem cntF_zero {E : List Bool} (h : ∀ j : Nat, j < E.length → rdb E j = true) : cntF E = 0 := by
  unfold cntF
  rw [List.countP_eq_zero]
  intro b hb
  obtain ⟨j, hj, rfl⟩ := List.mem_iff_getElem.1 hb
  have := h j hj
  have e : rdb E (j : Int) = E[j] := by unfold rdb; rw [Int.toNat_natCast, List.getD_eq_getElem?_getD, List.getElem?_eq_getElem hj]; rfl
  rw [e] at this
  rw [this]; simp
/-- Each place is in a ring. -/
theorem cycL_all (hp : p.Perm (iota p.length)) : (cycL p).flatten.length = p.length := by
  have hf := cycK_facts hp p.length (Nat.le_refl _)
  have := cntF_zero (E := (cycK p p.length).1) fun j hj => cycK_seen hp p.length (Nat.le_refl _) j (by rw [hf.1] at hj; exact hj)
  unfold cycL
  omega
theorem backL_len (l : List Int) (cs : List (List Int)) : (backL l cs).length = cs.flatten.length := by
  unfold backL
  rw [List.length_flatten, List.map_map, List.length_flatten, List.map_reverse, List.sum_reverse]
  congr 2
  funext c
  exact wordC_len l c
theorem mem_backL {l : List Int} {cs : List (List Int)} {x : Int} (h : x ∈ backL l cs) : ∃ y, y ∈ cs.flatten ∧ x = rd l y := by
  unfold backL at h
  obtain ⟨w, hw, hx⟩ := List.mem_flatten.1 h
  obtain ⟨c, hc, rfl⟩ := List.mem_map.1 hw
  unfold wordC at hx
  obtain ⟨y, hy, rfl⟩ := List.mem_map.1 hx
  exact ⟨y, List.mem_flatten.2 ⟨c, List.mem_reverse.1 hc, List.mem_reverse.1 hy⟩, rfl⟩
theorem backL_byt {l : List Int} (hl : ByteL l) (cs : List (List Int)) : ByteL (backL l cs) := fun x hx => by
  obtain ⟨y, _, rfl⟩ := mem_backL hx
  exact hl.rd _
end
end Go.Pure

/-! ## H2 -/
namespace Go.Proofs.Ytdfcnalkdlifiaa
open Go Go.Eng Go.Pure
set_option linter.unusedVariables false
end Go.Proofs.Ytdfcnalkdlifiaa

/-! ## Q35 -/
/-
  Plain laws: what the rings are. Own work.
-/
namespace Go.Pure
open Go Go.Eng
section
variable {p : List Int}
/-- So many steps on. -/
def pit (p : List Int) : Nat → Int → Int
  | 0, i => i
  | b + 1, i => rd p (pit p b i)
theorem pit_in (hp : p.Perm (iota p.length)) {i : Int} (i0 : 0 ≤ i) (hi : i < p.length) : ∀ b : Nat, 0 ≤ pit p b i ∧ pit p b i < p.length
  | 0 => ⟨i0, hi⟩
  | b + 1 => by
    have ih := pit_in hp i0 hi b
    exact mem_iota.1 (hp.subset (rd_mem (L := p) ih.1 ih.2))
theorem pit_add (p : List Int) (a : Nat) (i : Int) : ∀ b : Nat, pit p (a + b) i = pit p b (pit p a i)
  | 0 => rfl
  | b + 1 => by rw [← Nat.add_assoc, pit, pit_add p a i b, pit]
theorem p_inj (hp : p.Perm (iota p.length)) {x y : Int} (x0 : 0 ≤ x) (hx : x < p.length) (y0 : 0 ≤ y) (hy : y < p.length) (h : rd p x = rd p y) : x = y := rd_inj (hp.symm.nodup (iota_nodup _)) x0 hx y0 hy h
/-- A ring from i on. -/
structure Ring (p : List Int) (i : Int) (c : List Int) : Prop where
  pos : 0 < c.length
  at_ : ∀ b : Nat, b < c.length → rd c b = pit p b i
  close : pit p c.length i = i
  nodup : c.Nodup
  least : ∀ x ∈ c, i ≤ x
structure ClE (p : List Int) (E : List Bool) : Prop where
  len : E.length = p.length
  back : ∀ j : Int, 0 ≤ j → j < p.length → rdb E (rd p j) = true → rdb E j = true
theorem snoc_rd {l : List Int} {x : Int} {b : Nat} (h : b < (l ++ [x]).length) : rd (l ++ [x]) b = if b < l.length then rd l b else x := by
  split
  · rename_i g; rw [rd_append_l (by omega) (by omega)]
  · rename_i g
    have : b = l.length := by simp at h; omega
    subst this
    rw [rd_append_r (by omega), Int.sub_self]
    rfl
theorem walk_full (hp : p.Perm (iota p.length)) {E0 : List Bool} {i : Int} (hE0 : ClE p E0) (i0 : 0 ≤ i) (hi : i < p.length) (hun : rdb E0 i ≠ true) (hall : ∀ j : Int, 0 ≤ j → j < i → rdb E0 j = true) :
    ∀ (f : Nat) (E : List Bool) (acc : List Int), E.length = p.length → cntF E ≤ f → (∀ b : Nat, b < acc.length → rd acc b = pit p b i) → acc.Nodup → (∀ x ∈ acc, rdb E0 x ≠ true) → (∀ j : Int, 0 ≤ j → j < p.length → (rdb E j = true ↔ rdb E0 j = true ∨ j ∈ acc)) →
    Ring p i (acc ++ (walkC p f E (pit p acc.length i)).1) ∧ (∀ x ∈ acc ++ (walkC p f E (pit p acc.length i)).1, rdb E0 x ≠ true) ∧ ∀ j : Int, 0 ≤ j → j < p.length → (rdb (walkC p f E (pit p acc.length i)).2 j = true ↔ rdb E0 j = true ∨ j ∈ acc ++ (walkC p f E (pit p acc.length i)).1)
  | f, E, acc, hl, hf, hat, hnd, hfr, hset => by
    have hk := pit_in hp i0 hi acc.length
    have hmem : ∀ b : Nat, b < acc.length → pit p b i ∈ acc := fun b hb => by rw [← hat b hb]; exact rd_mem (by omega) (by omega)
    by_cases hseen : rdb E (pit p acc.length i) = true
    · rw [walkC_seen hseen]
      simp only [List.append_nil]
      have hne : 0 < acc.length := by
        rcases Nat.eq_zero_or_pos acc.length with z | z
        · exfalso
          have hz : acc = [] := List.eq_nil_of_length_eq_zero z
          subst hz
          rcases (hset i i0 hi).1 hseen with a | a
          · exact hun a
          · cases a
        · exact z
      have hclose : pit p acc.length i = i := by
        have hz := pit_in hp i0 hi (acc.length - 1)
        have hstep : pit p acc.length i = rd p (pit p (acc.length - 1) i) := by
          obtain ⟨m, hm⟩ : ∃ m, acc.length = m + 1 := ⟨acc.length - 1, by omega⟩
          rw [hm, pit]; rfl
        rcases (hset _ hk.1 hk.2).1 hseen with a | a
        · rw [hstep] at a
          exact absurd (hE0.back _ hz.1 hz.2 a) (hfr _ (hmem _ (by omega)))
        · obtain ⟨b, hb, e⟩ := List.mem_iff_getElem.1 a
          have e2 : pit p acc.length i = pit p b i := by rw [← hat b hb, rd_get hb]; exact e.symm
          rcases Nat.eq_zero_or_pos b with z | z
          · rw [e2, z]; rfl
          · exfalso
            have hb1 := pit_in hp i0 hi (b - 1)
            have hstep2 : pit p b i = rd p (pit p (b - 1) i) := by
              obtain ⟨m, rfl⟩ : ∃ m, b = m + 1 := ⟨b - 1, by omega⟩
              rw [pit]; rfl
            have := p_inj hp hz.1 hz.2 hb1.1 hb1.2 (by rw [← hstep, ← hstep2, e2])
            rw [← hat _ (by omega), ← hat _ (by omega)] at this
            have := rd_inj hnd (by omega) (by omega) (by omega) (by omega) this
            omega
      refine ⟨⟨hne, hat, hclose, hnd, fun x hx => ?_⟩, hfr, hset⟩
      obtain ⟨b, hb, rfl⟩ := List.mem_iff_getElem.1 hx
      have hr := pit_in hp i0 hi b
      rw [← hat b hb, rd_get hb] at hr
      rcases Int.lt_or_le acc[b] i with g | g
      · exact absurd (hall _ hr.1 g) (hfr _ hx)
      · exact g
    · have hpos := cntF_pos hk.1 (by omega) hseen
      have hup := cntF_upd hk.1 (by omega) hseen
      obtain ⟨g, rfl⟩ : ∃ g, f = g + 1 := ⟨f - 1, by omega⟩
      rw [walkC_go hk.1 (by omega) hf hseen]
      have hno : ¬ (rdb E0 (pit p acc.length i) = true ∨ pit p acc.length i ∈ acc) := fun h => hseen ((hset _ hk.1 hk.2).2 h)
      have hlen : (acc ++ [pit p acc.length i]).length = acc.length + 1 := by simp
      have ih := walk_full hp hE0 i0 hi hun hall g (updB E (pit p acc.length i) true) (acc ++ [pit p acc.length i]) (by rw [updB_len]; exact hl) (by omega) (fun b hb => by
        rw [snoc_rd hb]
        split
        · rename_i q; exact hat b q
        · rename_i q; rw [show b = acc.length by rw [hlen] at hb; omega]) (List.nodup_append.2 ⟨hnd, by simp, fun x hx y hy e => by obtain rfl := List.mem_singleton.1 hy; subst e; exact hno (.inr hx)⟩) (fun x hx => by
        rcases List.mem_append.1 hx with h | h
        · exact hfr x h
        · obtain rfl := List.mem_singleton.1 h
          exact fun e => hno (.inl e)) (fun j j0 hj => by
        rw [rdb_upd hk.1 (by omega) j0, List.mem_append, List.mem_singleton]
        split
        · rename_i e; exact ⟨fun _ => .inr (.inr e), fun _ => rfl⟩
        · rename_i e; rw [hset j j0 hj]; exact ⟨fun h => h.elim .inl fun h => .inr (.inl h), fun h => h.elim .inl fun h => h.elim .inr fun h => absurd h e⟩)
      rw [hlen, pit, List.append_assoc] at ih
      exact ih
/-- All about the rings so far. -/
structure CycI (p : List Int) (i : Nat) (E : List Bool) (ls : List (List Int)) : Prop where
  cl : ClE p E
  seen : ∀ j : Int, 0 ≤ j → j < p.length → (rdb E j = true ↔ j ∈ ls.flatten)
  nodup : ls.flatten.Nodup
  ring : ∀ c ∈ ls, ∃ i0 : Int, (0 ≤ i0 ∧ i0 < i) ∧ Ring p i0 c
  heads : ls.Pairwise fun c d => rd c 0 < rd d 0
theorem cycI (hp : p.Perm (iota p.length)) : ∀ i : Nat, i ≤ p.length → CycI p i (cycK p i).1 (cycK p i).2
  | 0, _ => ⟨⟨by simp [cycK], fun j j0 hj h => by rw [cycK, rdb_rep] at h; cases h⟩, fun j j0 hj => by rw [cycK, rdb_rep]; simp, by simp [cycK], fun c hc => (by cases hc), .nil⟩
  | i + 1, hi => by
    have ih := cycI hp i (by omega)
    have hseen := cycK_seen hp i (by omega)
    have hf := cycK_facts hp i (by omega)
    have hcnt : cntF (cycK p i).1 ≤ p.length := by have := hf.2.2; omega
    rw [cycK]
    by_cases hun : rdb (cycK p i).1 i = true
    · rw [walkC_seen hun]
      simp only [if_true]
      exact ⟨ih.cl, ih.seen, ih.nodup, fun c hc => by obtain ⟨i0, h, r⟩ := ih.ring c hc; exact ⟨i0, by omega, r⟩, ih.heads⟩
    · obtain ⟨w1, w2, w3⟩ := walk_full hp ih.cl (i := i) (by omega) (by omega) hun (fun j j0 hj => by have := hseen j.toNat (by omega); rwa [show ((j.toNat : Nat) : Int) = j by omega] at this) p.length (cycK p i).1 [] hf.1 hcnt (fun b hb => by simp at hb) .nil (fun x hx => by cases hx) (fun j j0 hj => by simp)
      simp only [List.nil_append, List.length_nil, pit] at w1 w2 w3
      have hwl := (walkC_facts hp p.length (cycK p i).1 i hf.1 (by omega) (by omega))
      generalize walkC p p.length (cycK p i).1 i = r at w1 w2 w3 hwl
      obtain ⟨c, E'⟩ := r
      simp only at w1 w2 w3 hwl ⊢
      rw [if_neg (fun e => by have := w1.pos; rw [e] at this; simp at this)]
      have h0 : rd c 0 = i := w1.at_ 0 w1.pos
      refine ⟨⟨hwl.1, fun j j0 hj h => ?_⟩, fun j j0 hj => ?_, ?_, fun d hd => ?_, ?_⟩
      · have hj' := mem_iota.1 (hp.subset (rd_mem (L := p) j0 hj))
        rcases (w3 _ hj'.1 hj'.2).1 h with a | a
        · exact (w3 j j0 hj).2 (.inl (ih.cl.back j j0 hj a))
        · refine (w3 j j0 hj).2 (.inr ?_)
          obtain ⟨b, hb, e⟩ := List.mem_iff_getElem.1 a
          have e2 : rd p j = pit p b i := by rw [← w1.at_ b hb, rd_get hb]; exact e.symm
          have key : ∀ m : Nat, m < c.length → rd p j = rd p (pit p m i) → j ∈ c := fun m hm e => by
            have hm' := pit_in hp (i := i) (by omega) (by omega) m
            have := p_inj hp j0 hj hm'.1 hm'.2 e
            rw [this, ← w1.at_ m hm]
            exact rd_mem (by omega) (by omega)
          rcases Nat.eq_zero_or_pos b with z | z
          · refine key (c.length - 1) (by have := w1.pos; omega) ?_
            have hc := w1.close
            obtain ⟨m, hm⟩ : ∃ m, c.length = m + 1 := ⟨c.length - 1, by have := w1.pos; omega⟩
            rw [hm, pit] at hc
            rw [e2, z, hm]
            exact hc.symm
          · obtain ⟨m, rfl⟩ : ∃ m, b = m + 1 := ⟨b - 1, by omega⟩
            exact key m (by omega) (by rw [e2, pit])
      · rw [w3 j j0 hj, List.flatten_append, List.mem_append, ih.seen j j0 hj]
        simp
      · rw [List.flatten_append]
        refine List.nodup_append.2 ⟨ih.nodup, by simpa using w1.nodup, fun x hx y hy e => ?_⟩
        subst e
        have hy : x ∈ c := by simpa using hy
        have hx' := hwl.2.1 x hy
        exact w2 x hy ((ih.seen x hx'.1 hx'.2).2 hx)
      · rcases List.mem_append.1 hd with h | h
        · obtain ⟨i0, h, r⟩ := ih.ring d h
          exact ⟨i0, by omega, r⟩
        · obtain rfl := List.mem_singleton.1 h
          exact ⟨i, by omega, w1⟩
      · refine List.pairwise_append.2 ⟨ih.heads, List.pairwise_singleton _ _, fun d hd e he => ?_⟩
        obtain rfl := List.mem_singleton.1 he
        obtain ⟨i0, h, r⟩ := ih.ring d hd
        rw [h0, show rd d 0 = i0 from r.at_ 0 r.pos]
        omega
theorem cycL_I (hp : p.Perm (iota p.length)) : CycI p p.length (cycK p p.length).1 (cycL p) := cycI hp p.length (Nat.le_refl _)
theorem cycL_perm (hp : p.Perm (iota p.length)) : (cycL p).flatten.Perm (iota p.length) := perm_all (cycL_I hp).nodup (fun x hx => by
  obtain ⟨c, hc, hx⟩ := List.mem_flatten.1 hx
  exact mem_iota.2 (cycL_in hp c hc x hx)) (by rw [iota_len, cycL_all hp]; exact Nat.le_refl _)
end
end Go.Pure
/-
  Plain laws: rows asx words without end; ring words are less than all their endings, and do not increase. Own work.
-/
namespace Go.Pure
open Go Go.Eng
section
variable {l : List Int}
/-- The row that leads here. -/
def phi (l : List Int) (q : Int) : Int := rd (passK (iota l.length) l 256) q
theorem phi_in (hl : ByteL l) {q : Int} (q0 : 0 ≤ q) (hq : q < l.length) : 0 ≤ phi l q ∧ phi l q < l.length := by
  have h := lf_order (l := l) hl
  have hlen := h.1.length_eq
  rw [iota_len] at hlen
  exact mem_iota.1 (h.1.subset (rd_mem q0 (by omega)))
theorem phi_lf (hl : ByteL l) {i : Int} (i0 : 0 ≤ i) (hi : i < l.length) : phi l (lfC l i) = i := by
  obtain ⟨q, q0, q1, e, f⟩ := lf_ix (l := l) hl i0 hi
  rw [f]; exact e
theorem phi_tl (hl : ByteL l) {i k : Int} (i0 : 0 ≤ i) (h : i < k) (hk : k < l.length) : tl l (phi l i) (phi l k) := by
  have hlen := (lf_order (l := l) hl).1.length_eq
  rw [iota_len] at hlen
  exact pairwise_rd (lf_order (l := l) hl).2 i0 h (by omega)
/-- The word without end of a row. -/
def uw (l : List Int) : Nat → Int → Int
  | 0, i => rd l (phi l i)
  | d + 1, i => uw l d (phi l i)
def U (l : List Int) (i : Int) (d : Nat) : Int := uw l d i
theorem U_zero (i : Int) : U l i 0 = rd l (phi l i) := by unfold U; rw [uw]
theorem U_succ (i : Int) (d : Nat) : U l i (d + 1) = U l (phi l i) d := by unfold U; rw [uw]
/-- The rows are in order, more or less. -/
theorem U_mono (hl : ByteL l) : ∀ (d : Nat) (i k : Int), 0 ≤ i → i < k → k < l.length → (∀ e, e < d → U l i e = U l k e) → U l i d ≤ U l k d
  | 0, i, k, i0, h, hk, _ => by
    have := phi_tl hl i0 h hk
    rw [U_zero, U_zero]
    unfold tl at this
    omega
  | d + 1, i, k, i0, h, hk, he => by
    have h0 := he 0 (by omega)
    rw [U_zero, U_zero] at h0
    have ht := phi_tl hl i0 h hk
    unfold tl at ht
    have hi' := phi_in hl (q := i) i0 (by omega)
    have hk' := phi_in hl (q := k) (by omega) hk
    rw [U_succ, U_succ]
    refine U_mono hl d _ _ hi'.1 (by omega) hk'.2 fun e he' => ?_
    have := he (e + 1) (by omega)
    rwa [U_succ, U_succ] at this
theorem U_le (hl : ByteL l) {i k : Int} (i0 : 0 ≤ i) (h : i ≤ k) (hk : k < l.length) : ¬ Lt (U l k) (U l i) := by
  rintro ⟨d, h1, h2⟩
  rcases Int.lt_or_le i k with a | a
  · have := U_mono hl d i k i0 a hk fun e he => (h1 e he).symm
    omega
  · obtain rfl : i = k := by omega
    omega
/-- Rows of one word keep their order on the way back. -/
theorem phi_mono (hl : ByteL l) {i k : Int} (i0 : 0 ≤ i) (h : i < k) (hk : k < l.length) (he : ∀ d, U l i d = U l k d) : phi l i < phi l k ∧ ∀ d, U l (phi l i) d = U l (phi l k) d := by
  have ht := phi_tl hl i0 h hk
  have h0 := he 0
  rw [U_zero, U_zero] at h0
  unfold tl at ht
  refine ⟨by omega, fun d => ?_⟩
  have := he (d + 1)
  rwa [U_succ, U_succ] at this
/-- So many rows back. -/
def phit (l : List Int) : Nat → Int → Int
  | 0, i => i
  | b + 1, i => phit l b (phi l i)
theorem phit_in (hl : ByteL l) : ∀ (b : Nat) {i : Int}, 0 ≤ i → i < l.length → 0 ≤ phit l b i ∧ phit l b i < l.length
  | 0, i, i0, hi => ⟨i0, hi⟩
  | b + 1, i, i0, hi => by
    have h := phi_in hl i0 hi
    exact phit_in hl b h.1 h.2
theorem phit_mono (hl : ByteL l) : ∀ (b : Nat) {i k : Int}, 0 ≤ i → i < k → k < l.length → (∀ d, U l i d = U l k d) → phit l b i < phit l b k ∧ ∀ d, U l (phit l b i) d = U l (phit l b k) d
  | 0, i, k, _, h, _, he => ⟨h, he⟩
  | b + 1, i, k, i0, h, hk, he => by
    have h1 := phi_mono hl i0 h hk he
    have hi' := phi_in hl (q := i) i0 (by omega)
    have hk' := phi_in hl (q := k) (by omega) hk
    exact phit_mono hl b hi'.1 h1.1 hk'.2 h1.2
theorem U_phit (i : Int) : ∀ (b d : Nat), U l (phit l b i) d = U l i (b + d)
  | 0, d => by rw [Nat.zero_add]; rfl
  | b + 1, d => by
    rw [phit, U_phit (phi l i) b d, ← U_succ, show b + d + 1 = b + 1 + d by omega]
theorem phit_add (i : Int) : ∀ (a b : Nat), phit l (a + b) i = phit l b (phit l a i)
  | 0, b => by rw [Nat.zero_add]; rfl
  | a + 1, b => by rw [show a + 1 + b = (a + b) + 1 by omega, phit, phit_add (phi l i) a b]; rfl
theorem iter_up (hl : ByteL l) {i : Int} (i0 : 0 ≤ i) (hi : i < l.length) {b : Nat} (h : i < phit l b i) (he : ∀ d, U l i d = U l (phit l b i) d) : ∀ t : Nat, i + t ≤ phit l (t * b) i
  | 0 => by rw [Nat.zero_mul]; show i + 0 ≤ i; omega
  | t + 1 => by
    have ih := iter_up hl i0 hi h he t
    have hk := phit_in hl b i0 hi
    have h1 := (phit_mono hl (t * b) i0 h hk.2 he).1
    rw [← phit_add i b (t * b), show b + t * b = (t + 1) * b by rw [Nat.succ_mul]; omega] at h1
    omega
theorem iter_dn (hl : ByteL l) {i : Int} (i0 : 0 ≤ i) (hi : i < l.length) {b : Nat} (h : phit l b i < i) (he : ∀ d, U l i d = U l (phit l b i) d) : ∀ t : Nat, phit l (t * b) i + t ≤ i
  | 0 => by rw [Nat.zero_mul]; show i + 0 ≤ i; omega
  | t + 1 => by
    have ih := iter_dn hl i0 hi h he t
    have hk := phit_in hl b i0 hi
    have h1 := (phit_mono hl (t * b) hk.1 h hi fun d => (he d).symm).1
    rw [← phit_add i b (t * b), show b + t * b = (t + 1) * b by rw [Nat.succ_mul]; omega] at h1
    omega
/-- No row of a ring says the same asx another one of it. -/
theorem row_once (hl : ByteL l) {i : Int} (i0 : 0 ≤ i) (hi : i < l.length) {b : Nat} (hne : phit l b i ≠ i) : ¬ ∀ d, U l i d = U l (phit l b i) d := fun he => by
  rcases Int.lt_or_le i (phit l b i) with h | h
  · have := iter_up hl i0 hi h he (l.length + 1)
    have := phit_in hl ((l.length + 1) * b) i0 hi
    omega
  · have := iter_dn hl i0 hi (by omega) he (l.length + 1)
    have := phit_in hl ((l.length + 1) * b) i0 hi
    omega
theorem fs_perm (hl : ByteL l) : (((iota l.length).map (lfC l))).Perm (iota ((iota l.length).map (lfC l)).length) := by
  rw [List.length_map, iota_len]
  exact bij_perm (fun x h0 h1 => lf_bd (l := l) hl h0 h1) fun x y x0 x1 y0 y1 e => lf_inj (l := l) hl x0 x1 y0 y1 e
def lfL (l : List Int) : List Int := (iota l.length).map (lfC l)
theorem lfL_len (l : List Int) : (lfL l).length = l.length := by unfold lfL; rw [List.length_map, iota_len]
theorem rd_lfL {i : Int} (i0 : 0 ≤ i) (hi : i < l.length) : rd (lfL l) i = lfC l i := by
  unfold lfL
  rw [rd_map i0 (by rw [iota_len]; exact hi), rd_iota i0 hi]
theorem lfL_perm (hl : ByteL l) : (lfL l).Perm (iota (lfL l).length) := fs_perm hl
theorem phit_pit (hl : ByteL l) {i : Int} (i0 : 0 ≤ i) (hi : i < l.length) : ∀ b : Nat, phit l b (pit (lfL l) b i) = i
  | 0 => rfl
  | b + 1 => by
    have h := pit_in (lfL_perm hl) i0 (by rw [lfL_len]; exact hi) b
    rw [lfL_len] at h
    rw [phit, pit, rd_lfL h.1 h.2, phi_lf hl h.1 h.2]
    exact phit_pit hl i0 hi b
section
variable {i : Int} {c : List Int} (hl : ByteL l) (i0 : 0 ≤ i) (hi : i < l.length) (hc : Ring (lfL l) i c)
include hl i0 hi hc
/-- Back in a ring: asx its rows stand, from the end. -/
theorem ring_back {b : Nat} (hb : b ≤ c.length) : phit l b i = pit (lfL l) (c.length - b) i := by
  have h := phit_pit hl (pit_in (lfL_perm hl) i0 (by rw [lfL_len]; exact hi) (c.length - b)).1 (by have := (pit_in (lfL_perm hl) i0 (by rw [lfL_len]; exact hi) (c.length - b)).2; rw [lfL_len] at this; exact this) b
  rw [← pit_add, show c.length - b + b = c.length by omega, hc.close] at h
  exact h
theorem ring_round : phit l c.length i = i := by
  rw [ring_back hl i0 hi hc (Nat.le_refl _), Nat.sub_self]; rfl
theorem ring_per : Per (U l i) c.length := fun d => by
  rw [Nat.add_comm, ← U_phit, ring_round hl i0 hi hc]
theorem wordC_at {d : Nat} (hd : d < c.length) : rd (wordC l c) d = U l i d := by
  have h1 : rd (wordC l c) d = rd l (rd c ((c.length - 1 - d : Nat) : Int)) := by
    unfold wordC
    rw [rd_map (by omega) (by rw [List.length_reverse]; omega)]
    congr 1
    rw [rd_get (by rw [List.length_reverse]; exact hd), List.getElem_reverse, rd_get (by omega)]
  have h2 : U l i d = rd l (phit l (d + 1) i) := by
    have := U_phit (l := l) i d 0
    rw [Nat.add_zero, U_zero] at this
    rw [← this, phit_add i d 1]; rfl
  rw [h1, h2, hc.at_ _ (by omega), ring_back hl i0 hi hc (by omega), show c.length - (d + 1) = c.length - 1 - d by omega]
theorem wordC_om : om (wordC l c) = U l i := by
  funext d
  have hp := hc.pos
  have h1 : om (wordC l c) d = rd (wordC l c) ((d % c.length : Nat) : Int) := by
    unfold om rd
    rw [wordC_len, Int.toNat_natCast]
  rw [h1, wordC_at hl i0 hi hc (Nat.mod_lt _ hp)]
  exact (ring_per hl i0 hi hc).mod d
theorem ring_other {r : Nat} (r0 : 0 < r) (hr : r < c.length) : i < phit l r i := by
  rw [ring_back hl i0 hi hc (by omega)]
  have h1 := hc.least _ (rd_mem (L := c) (k := ((c.length - r : Nat) : Int)) (by omega) (by omega))
  rw [hc.at_ _ (by omega)] at h1
  rcases Int.lt_or_le i (pit (lfL l) (c.length - r) i) with g | g
  · exact g
  · exfalso
    have e : rd c ((c.length - r : Nat) : Int) = rd c ((0 : Nat) : Int) := by
      rw [hc.at_ _ (by omega), hc.at_ 0 hc.pos]
      show _ = i
      omega
    have := rd_inj hc.nodup (by omega) (by omega) (by omega) (by have := hc.pos; omega) e
    omega
/-- A ring's word is less than all its endings. -/
theorem ring_lyn : LynB (wordC l c) = true := by
  rw [LynB_iff, wordC_len]
  refine ⟨hc.pos, fun r r0 hr => ?_⟩
  have hot := ring_other hl i0 hi hc r0 hr
  have hin := phit_in hl r i0 hi
  have hnl := U_le hl i0 (Int.le_of_lt hot) hin.2
  have hne := row_once hl i0 hi (b := r) (by omega)
  have hlt : Lt (U l i) (U l (phit l r i)) := by
    rcases lt_tri (U l i) (U l (phit l r i)) with a | a | a
    · exact a
    · exact absurd a hne
    · exact absurd a hnl
  obtain ⟨d, h1, h2⟩ := hlt
  have hsh : ∀ e, U l (phit l r i) e = U l i (r + e) := fun e => U_phit i r e
  rw [hsh] at h2
  have hdm : d < c.length - r := by
    rcases Nat.lt_or_ge d (c.length - r) with g | g
    · exact g
    · exfalso
      have hper := ring_per hl i0 hi hc
      have hot2 := ring_other hl i0 hi hc (r := c.length - r) (by omega) (by omega)
      have hin2 := phit_in hl (c.length - r) i0 hi
      refine U_le hl i0 (Int.le_of_lt hot2) hin2.2 ⟨d - (c.length - r), fun e he => ?_, ?_⟩
      · rw [U_phit]
        have := h1 (c.length - r + e) (by omega)
        rw [this, hsh, show r + (c.length - r + e) = e + c.length by omega, hper]
      · rw [U_phit, show c.length - r + (d - (c.length - r)) = d by omega]
        rw [show r + d = (d - (c.length - r)) + c.length by omega, hper] at h2
        exact h2
  rw [cmpL_neg_iff _ _ (by rw [List.length_drop, wordC_len]; omega), List.length_drop, wordC_len]
  have hlt : ∀ e, e < c.length → lt (wordC l c) e = U l i e := fun e he => by
    rw [← wordC_at hl i0 hi hc he]
    unfold lt rd
    rw [Int.toNat_natCast]
  refine ⟨d, hdm, fun e he => ?_, ?_⟩
  · rw [lt_drop, hlt e (by omega), hlt (r + e) (by omega), h1 e he, hsh]
  · rw [lt_drop, hlt d (by omega), hlt (r + d) (by omega)]
    exact h2
end
end
end Go.Pure
/-
  Plain laws: words that are less than all their endings, not increasing, are the factors of their text. Own work.
-/
namespace Go.Pure
open Go Go.Eng
theorem om_at {w : List Int} {e : Nat} (h : e < w.length) : om w e = lt w e := om_lt h
theorem LynB_at {v : List Int} (h : LynB v = true) {r : Nat} (r0 : 0 < r) (hr : r < v.length) : ∃ d, d < v.length - r ∧ (∀ e, e < d → lt v e = lt v (r + e)) ∧ lt v d < lt v (r + d) := by
  have := ((LynB_iff v).1 h).2 r r0 hr
  rw [cmpL_neg_iff _ _ (by rw [List.length_drop]; omega), List.length_drop] at this
  obtain ⟨d, h1, h2, h3⟩ := this
  refine ⟨d, h1, fun e he => ?_, ?_⟩
  · rw [h2 e he, lt_drop]
  · rwa [lt_drop] at h3
/-- A word that goes on beyond a beginning of it that is such a word is greater without end. -/
theorem longer {w v : List Int} (hw : 0 < w.length) (hv : LynB v = true) (hlen : w.length < v.length) (hpre : ∀ e, e < w.length → lt v e = lt w e) : Lt (om w) (om v) := by
  obtain ⟨d, h1, h2, h3⟩ := LynB_at hv hw hlen
  have hper := om_per w
  have agr : ∀ e, e < w.length + d → lt v e = om w e := by
    intro e
    induction e using Nat.strongRecOn with
    | ind e ih =>
      intro he
      rcases Nat.lt_or_ge e w.length with g | g
      · rw [hpre e g, om_at g]
      · have e1 := h2 (e - w.length) (by omega)
        rw [show w.length + (e - w.length) = e by omega] at e1
        have e2 := hper (e - w.length)
        rw [show e - w.length + w.length = e by omega] at e2
        rw [← e1, e2]
        exact ih (e - w.length) (by omega) (by omega)
  refine ⟨w.length + d, fun f hf => ?_, ?_⟩
  · rw [om_at (w := v) (by omega), agr f hf]
  · rw [om_at (w := v) (by omega)]
    have e1 := hper d
    rw [Nat.add_comm d w.length] at e1
    rw [e1, ← agr d (by omega)]
    exact h3
theorem in_word : ∀ (ws : List (List Int)) (m : Nat), 0 < m → m ≤ ws.flatten.length → ∃ v ∈ ws, ∃ r, r < m ∧ m ≤ r + v.length ∧ ∀ e, e < v.length → lt ws.flatten (r + e) = lt v e
  | [], m, h0, h => by simp at h; omega
  | w :: ws, m, h0, h => by
    rw [List.flatten_cons, List.length_append] at h
    rcases Nat.lt_or_ge w.length m with g | g
    · obtain ⟨v, hv, r, h1, h2, h3⟩ := in_word ws (m - w.length) (by omega) (by omega)
      refine ⟨v, List.mem_cons_of_mem _ hv, w.length + r, by omega, by omega, fun e he => ?_⟩
      rw [List.flatten_cons, ← h3 e he]
      unfold lt
      rw [List.getD_eq_getElem?_getD, List.getD_eq_getElem?_getD, List.getElem?_append_right (by omega), show w.length + r + e - w.length = r + e by omega]
    · refine ⟨w, by simp, 0, h0, by omega, fun e he => ?_⟩
      rw [List.flatten_cons, Nat.zero_add]
      unfold lt
      rw [List.getD_eq_getElem?_getD, List.getD_eq_getElem?_getD, List.getElem?_append_left he]
theorem fac_first {w : List Int} {ws : List (List Int)} (hw : LynB w = true) (hws : ∀ v ∈ ws, LynB v = true) (hle : ∀ v ∈ ws, ¬ Lt (om w) (om v)) : lynLen (w ++ ws.flatten) (w ++ ws.flatten).length = w.length := by
  have hpos := ((LynB_iff w).1 hw).1
  refine lynLen_eq (by rw [List.take_left']; exact hw; rfl) _ (by simp) fun m h1 h2 => ?_
  cases hb : LynB ((w ++ ws.flatten).take m) with
  | false => rfl
  | true =>
    exfalso
    rw [List.length_append] at h2
    obtain ⟨v, hv, r, r1, r2, r3⟩ := in_word ws (m - w.length) (by omega) (by omega)
    have hml : ((w ++ ws.flatten).take m).length = m := by rw [List.length_take, List.length_append]; omega
    obtain ⟨d, d1, d2, d3⟩ := LynB_at hb (r := w.length + r) (by omega) (by omega)
    rw [hml] at d1
    have hs : ∀ e, e < m → lt ((w ++ ws.flatten).take m) e = lt (w ++ ws.flatten) e := fun e he => lt_take he
    have hsw : ∀ e, e < w.length → lt (w ++ ws.flatten) e = lt w e := fun e he => by
      unfold lt
      rw [List.getD_eq_getElem?_getD, List.getD_eq_getElem?_getD, List.getElem?_append_left he]
    have hsv : ∀ e, e < v.length → lt (w ++ ws.flatten) (w.length + r + e) = lt v e := fun e he => by
      rw [← r3 e he]
      unfold lt
      rw [List.getD_eq_getElem?_getD, List.getD_eq_getElem?_getD, List.getElem?_append_right (by omega), show w.length + r + e - w.length = r + e by omega]
    have hlv := hws v hv
    have q2 : ∀ e, e < d → lt (w ++ ws.flatten) e = lt v e := fun e he => by
      have := d2 e he
      rwa [hs _ (by omega), hs _ (by omega), hsv e (by omega)] at this
    have q3 : lt (w ++ ws.flatten) d < lt v d := by rwa [hs _ (by omega), hs _ (by omega), hsv d (by omega)] at d3
    rcases Nat.lt_or_ge d w.length with g | g
    · refine hle v hv ⟨d, fun e he => ?_, ?_⟩
      · rw [om_at (w := w) (by omega), om_at (w := v) (by omega), ← q2 e he, hsw e (by omega)]
      · rw [om_at (w := w) g, om_at (w := v) (by omega), ← hsw d g]
        exact q3
    · exact hle v hv (longer hpos hlv (by omega) fun e he => by rw [← q2 e (by omega), hsw e he])
theorem fac_all : ∀ {ws : List (List Int)}, (∀ v ∈ ws, LynB v = true) → ws.Pairwise (fun a b => ¬ Lt (om a) (om b)) → facL ws.flatten = ws.map fun w => (w.length : Int)
  | [], _, _ => facL_nil rfl
  | w :: ws, hl, hp => by
    obtain ⟨h1, h2⟩ := List.pairwise_cons.1 hp
    have hw := hl w (by simp)
    have hpos := ((LynB_iff w).1 hw).1
    have hf := fac_first hw (fun v hv => hl v (List.mem_cons_of_mem _ hv)) h1
    rw [List.flatten_cons, facL_cons (by rw [List.length_append]; omega), hf, List.drop_left', List.map_cons, fac_all (fun v hv => hl v (List.mem_cons_of_mem _ hv)) h2]
    rfl
theorem ps_map_len (ws : List (List Int)) (k : Nat) : ps (ws.map fun w => (w.length : Int)) k = ((ws.take k).flatten.length : Int) := by
  unfold ps
  rw [Int.toNat_natCast, ← List.map_take]
  induction ws.take k with
  | nil => rfl
  | cons w l ih => rw [List.map_cons, List.sum_cons, ih, List.flatten_cons, List.length_append]; omega
theorem cut_words (ws : List (List Int)) : wordsK ws.flatten (ws.map fun w => (w.length : Int)) ws.length = ws := by
  refine List.ext_getElem (by rw [wordsK_len]; omega) fun k h1 h2 => ?_
  simp only [wordsK, List.getElem_map, List.getElem_range]
  rw [ps_map_len, Int.toNat_natCast, rd_get (by rw [List.length_map]; exact h2), List.getElem_map, Int.toNat_natCast]
  have e : ws.flatten = (ws.take k).flatten ++ (ws[k] ++ (ws.drop (k + 1)).flatten) := by
    conv => lhs; rw [← List.take_append_drop k ws, List.drop_eq_getElem_cons h2]
    rw [List.flatten_append, List.flatten_cons]
  rw [e, List.drop_left' rfl, List.take_left' rfl]
/-- Its factors are these words. -/
theorem bws_words {ws : List (List Int)} (hl : ∀ v ∈ ws, LynB v = true) (hp : ws.Pairwise (fun a b => ¬ Lt (om a) (om b))) : bws ws.flatten = ws := by
  unfold bws
  rw [fac_all hl hp, List.length_map]
  exact cut_words ws
end Go.Pure
/-
  Plain laws: turned without a mark, and back; back, and turned. Own work.
-/
namespace Go.Pure
open Go Go.Eng
section
variable {l : List Int}
def ringW (l : List Int) : List (List Int) := ((cycL (lfL l)).reverse).map (wordC l)
theorem backL_ring (l : List Int) : backL l (cycL (lfL l)) = (ringW l).flatten := rfl
theorem ring_of (hl : ByteL l) {c : List Int} (hc : c ∈ cycL (lfL l)) : ∃ i : Int, (0 ≤ i ∧ i < l.length) ∧ Ring (lfL l) i c ∧ rd c 0 = i := by
  obtain ⟨i, h, r⟩ := (cycL_I (lfL_perm hl)).ring c hc
  rw [lfL_len] at h
  exact ⟨i, h, r, r.at_ 0 r.pos⟩
theorem ringW_lyn (hl : ByteL l) : ∀ v ∈ ringW l, LynB v = true := fun v hv => by
  obtain ⟨c, hc, rfl⟩ := List.mem_map.1 hv
  obtain ⟨i, h, r, _⟩ := ring_of hl (List.mem_reverse.1 hc)
  exact ring_lyn hl h.1 h.2 r
theorem ringW_down (hl : ByteL l) : (ringW l).Pairwise (fun a b => ¬ Lt (om a) (om b)) := by
  unfold ringW
  rw [List.map_reverse]
  refine List.pairwise_reverse.2 (List.pairwise_map.2 ?_)
  refine List.Pairwise.imp_of_mem (fun {c d} hc hd h => ?_) (cycL_I (lfL_perm hl)).heads
  obtain ⟨i, hi, r, e⟩ := ring_of hl hc
  obtain ⟨k, hk, q, f⟩ := ring_of hl hd
  rw [wordC_om hl hi.1 hi.2 r, wordC_om hl hk.1 hk.2 q]
  exact U_le hl hi.1 (by omega) hk.2
/-- The factors of what is read back are the rings' words. -/
theorem bws_back (hl : ByteL l) : bws (backL l (cycL (lfL l))) = ringW l := by
  rw [backL_ring]
  exact bws_words (ringW_lyn hl) (ringW_down hl)
theorem tw_om {ws : List (List Int)} {w : Int} {j : Nat} : tw ws (w, (j : Int)) = fun d => om (rdl ws w) (j + d) := by
  funext d
  unfold tw om
  simp only [Int.toNat_natCast]
/-- The rows of a ring, from its first one back. -/
theorem ring_perm (hl : ByteL l) {i : Int} {c : List Int} (i0 : 0 ≤ i) (hi : i < l.length) (hc : Ring (lfL l) i c) : ((List.range c.length).map fun j => phit l j i).Perm c := by
  have hpos := hc.pos
  have hback : ∀ j, j < c.length → phit l j i = rd c (((c.length - j) % c.length : Nat) : Int) := fun j hj => by
    rw [ring_back hl i0 hi hc (by omega)]
    rcases Nat.eq_zero_or_pos j with z | z
    · subst z
      rw [Nat.sub_zero, hc.close, Nat.mod_self, hc.at_ 0 hpos]
      rfl
    · rw [Nat.mod_eq_of_lt (by omega), hc.at_ _ (by omega)]
  refine perm_all ?_ (fun x hx => ?_) (by simp)
  · refine List.pairwise_map.2 (List.Pairwise.imp_of_mem (fun {a b} ha hb hab e => ?_) List.nodup_range)
    have ha := List.mem_range.1 ha
    have hb := List.mem_range.1 hb
    rw [hback a ha, hback b hb] at e
    have h1 := Nat.mod_lt (c.length - a) hpos
    have h2 := Nat.mod_lt (c.length - b) hpos
    have := rd_inj hc.nodup (by omega) (by omega) (by omega) (by omega) e
    have e3 : (c.length - a) % c.length = (c.length - b) % c.length := by omega
    refine hab ?_
    rcases Nat.eq_zero_or_pos a with z | z
    · rcases Nat.eq_zero_or_pos b with y | y
      · omega
      · rw [z, Nat.sub_zero, Nat.mod_self, Nat.mod_eq_of_lt (by omega)] at e3; omega
    · rcases Nat.eq_zero_or_pos b with y | y
      · rw [y, Nat.sub_zero, Nat.mod_self, Nat.mod_eq_of_lt (by omega)] at e3; omega
      · rw [Nat.mod_eq_of_lt (by omega), Nat.mod_eq_of_lt (by omega)] at e3; omega
  · obtain ⟨j, hj, rfl⟩ := List.mem_map.1 hx
    have hj := List.mem_range.1 hj
    have h1 := Nat.mod_lt (c.length - j) hpos
    rw [hback j hj]
    exact rd_mem (by omega) (by omega)
/-- All rotations of the rings' words are the rows. -/
theorem turns_rows (hl : ByteL l) : ∀ k : Nat, k ≤ (cycL (lfL l)).length → ((tlist (ringW l) k).map (tw (ringW l))).Perm (((((cycL (lfL l)).reverse).take k).flatten).map (U l))
  | 0, _ => .refl _
  | k + 1, hk => by
    have ih := turns_rows hl k (by omega)
    have hlt : k < (cycL (lfL l)).reverse.length := by rw [List.length_reverse]; omega
    rw [tlist, List.map_append, List.take_add_one, List.getElem?_eq_getElem hlt, List.flatten_append, List.map_append]
    refine ih.append ?_
    simp only [Option.toList_some, List.flatten_cons, List.flatten_nil, List.append_nil]
    have hmem : (cycL (lfL l)).reverse[k] ∈ cycL (lfL l) := List.mem_reverse.1 (List.getElem_mem hlt)
    have hrw : rdl (ringW l) (k : Int) = wordC l (cycL (lfL l)).reverse[k] := by
      unfold rdl ringW
      rw [Int.toNat_natCast, List.getD_eq_getElem?_getD, List.getElem?_map, List.getElem?_eq_getElem hlt]
      rfl
    generalize (cycL (lfL l)).reverse[k] = c at hmem hrw
    obtain ⟨i, hi, r, _⟩ := ring_of hl hmem
    have h1 := (ring_perm hl hi.1 hi.2 r).map (U l)
    refine List.Perm.trans (.of_eq ?_) h1
    rw [hrw, wordC_len]
    unfold turnsOf
    rw [List.map_map, List.map_map]
    refine List.map_congr_left fun j _ => ?_
    show tw (ringW l) ((k : Int), (j : Int)) = U l (phit l j i)
    rw [tw_om, hrw, wordC_om hl hi.1 hi.2 r]
    funext d
    rw [U_phit]
theorem row_round (hl : ByteL l) {q : Int} (q0 : 0 ≤ q) (hq : q < l.length) : ∃ m : Nat, 0 < m ∧ phit l m q = q := by
  have hp := cycL_perm (lfL_perm hl)
  obtain ⟨c, hc, hqc⟩ := List.mem_flatten.1 (hp.symm.subset (mem_iota.2 ⟨q0, by rw [lfL_len]; exact hq⟩))
  obtain ⟨i, hi, r, _⟩ := ring_of hl hc
  obtain ⟨j, hj, e⟩ := List.mem_map.1 ((ring_perm hl hi.1 hi.2 r).symm.subset hqc)
  refine ⟨c.length, r.pos, ?_⟩
  rw [← e, ← phit_add, Nat.add_comm, phit_add, ring_round hl hi.1 hi.2 r]
theorem phit_mul {q : Int} {m : Nat} (h : phit l m q = q) : ∀ t : Nat, phit l (t * m) q = q
  | 0 => by rw [Nat.zero_mul]; rfl
  | t + 1 => by rw [Nat.succ_mul, phit_add, phit_mul h t, h]
theorem U_last {q : Int} {m t : Nat} (hm : phit l m q = q) (m0 : 0 < m) (t0 : 0 < t) : U l q (m * t - 1) = rd l q := by
  have h := phit_mul hm t
  rw [Nat.mul_comm] at h
  have hpos : 0 < m * t := Nat.mul_pos m0 t0
  have h2 := U_phit (l := l) q (m * t - 1) 0
  rw [Nat.add_zero, U_zero] at h2
  rw [← h2]
  have h3 := phit_add (l := l) q (m * t - 1) 1
  rw [show m * t - 1 + 1 = m * t by omega, h] at h3
  rw [show phi l (phit l (m * t - 1) q) = phit l 1 (phit l (m * t - 1) q) from rfl, ← h3]
end
def byteV : List Int := (List.range 256).map fun c : Nat => (c : Int)
theorem mem_byteV {x : Int} : x ∈ byteV ↔ 0 ≤ x ∧ x < 256 := by
  unfold byteV
  rw [List.mem_map]
  constructor
  · rintro ⟨c, hc, rfl⟩
    have := List.mem_range.1 hc
    omega
  · intro h
    exact ⟨x.toNat, List.mem_range.2 (by omega), by omega⟩
theorem byteV_nodup : byteV.Nodup := List.pairwise_map.2 (List.Pairwise.imp (fun h e => h (by omega)) List.nodup_range)
def allW : Nat → List (List Int)
  | 0 => [[]]
  | n + 1 => byteV.flatMap fun c => (allW n).map fun w => c :: w
theorem mem_allW : ∀ {n : Nat} {w : List Int}, w ∈ allW n ↔ w.length = n ∧ ByteL w
  | 0, w => by
    rw [allW, List.mem_singleton]
    exact ⟨fun h => by subst h; exact ⟨rfl, fun x hx => by cases hx⟩, fun h => List.eq_nil_of_length_eq_zero h.1⟩
  | n + 1, w => by
    rw [allW, List.mem_flatMap]
    constructor
    · rintro ⟨c, hc, hw⟩
      obtain ⟨v, hv, rfl⟩ := List.mem_map.1 hw
      have hv := mem_allW.1 hv
      refine ⟨by simp [hv.1], fun x hx => ?_⟩
      rcases List.mem_cons.1 hx with rfl | hx
      · exact mem_byteV.1 hc
      · exact hv.2 x hx
    · rintro ⟨hl, hb⟩
      cases w with
      | nil => simp at hl
      | cons c v => exact ⟨c, mem_byteV.2 (hb c (by simp)), List.mem_map.2 ⟨v, mem_allW.2 ⟨by simpa using hl, fun x hx => hb x (List.mem_cons_of_mem _ hx)⟩, rfl⟩⟩
theorem allW_nodup : ∀ n : Nat, (allW n).Nodup
  | 0 => by rw [allW]; exact List.pairwise_singleton _ _
  | n + 1 => by
    rw [allW]
    refine List.pairwise_flatMap.2 ⟨fun c _ => List.pairwise_map.2 ((allW_nodup n).imp fun h e => h (List.cons.inj e).2), byteV_nodup.imp fun {c d} h x hx y hy e => ?_⟩
    obtain ⟨v, _, rfl⟩ := List.mem_map.1 hx
    obtain ⟨w, _, rfl⟩ := List.mem_map.1 hy
    exact h (List.cons.inj e).1
/-- What is read back tells what it was read from. -/
theorem back_inj {l k : List Int} (hl : ByteL l) (hk : ByteL k) (hlen : l.length = k.length) (h : backL l (cycL (lfL l)) = backL k (cycL (lfL k))) : l = k := by
  have hw : ringW l = ringW k := by rw [← bws_back hl, ← bws_back hk, h]
  have all : ∀ {x : List Int}, ByteL x → ((tlist (ringW x) (ringW x).length).map (tw (ringW x))).Perm ((iota x.length).map (U x)) := fun {x} hx => by
    have hlx : (ringW x).length = (cycL (lfL x)).length := by unfold ringW; rw [List.length_map, List.length_reverse]
    rw [hlx]
    refine (turns_rows hx _ (Nat.le_refl _)).trans ?_
    rw [List.take_of_length_le (by rw [List.length_reverse]; exact Nat.le_refl _)]
    have hc := cycL_perm (lfL_perm hx)
    rw [lfL_len] at hc
    exact (((List.reverse_perm _).flatten).trans hc).map _
  have srt : ∀ {x : List Int}, ByteL x → ((iota x.length).map (U x)).Pairwise fun a b => ¬ Lt b a := fun {x} hx => List.pairwise_map.2 (List.Pairwise.imp_of_mem (fun {i k} hi hk h => by
    have hi := mem_iota.1 hi
    have hk := mem_iota.1 hk
    exact U_le hx hi.1 (Int.le_of_lt h) hk.2) (iota_inc x.length))
  have h1 := all hl
  rw [hw] at h1
  have same : (iota l.length).map (U l) = (iota k.length).map (U k) := (h1.symm.trans (all hk)).eq_of_pairwise (fun a b _ _ x y => by
    rcases lt_tri a b with z | z | z
    · exact absurd z y
    · exact funext z
    · exact absurd z x) (srt hl) (srt hk)
  refine list_ext_rd hlen fun q q0 q1 => ?_
  have at_ : ∀ {x : List Int}, q < x.length → ((iota x.length).map (U x))[q.toNat]? = some (U x q) := fun {x} hx => by
    rw [List.getElem?_map, List.getElem?_eq_getElem (by rw [iota_len]; omega)]
    have := rd_iota (n := x.length) q0 hx
    rw [rd_getI q0 (by rw [iota_len]; omega)] at this
    rw [this]
    rfl
  have e := at_ q1
  rw [same, at_ (by omega)] at e
  have eU : U k q = U l q := Option.some.inj e
  obtain ⟨m, m0, hm⟩ := row_round hl q0 q1
  obtain ⟨m', m0', hm'⟩ := row_round hk q0 (by omega : q < k.length)
  have a := U_last hm m0 m0'
  have b := U_last hm' m0' m0
  rw [Nat.mul_comm, eU, a] at b
  exact b
/-- All texts are read back from one. -/
theorem back_onto {s : List Int} (hs : ByteL s) : ∃ l : List Int, ByteL l ∧ l.length = s.length ∧ backL l (cycL (lfL l)) = s := by
  have hp : ((allW s.length).map fun l => backL l (cycL (lfL l))).Perm (allW s.length) := by
    refine perm_all ?_ (fun x hx => ?_) (by simp)
    · refine List.pairwise_map.2 (List.Pairwise.imp_of_mem (fun {a b} ha hb hab e => ?_) (allW_nodup _))
      have ha := mem_allW.1 ha
      have hb := mem_allW.1 hb
      exact hab (back_inj ha.2 hb.2 (by omega) e)
    · obtain ⟨l, hl, rfl⟩ := List.mem_map.1 hx
      have hl := mem_allW.1 hl
      exact mem_allW.2 ⟨by rw [backL_len, cycL_all (lfL_perm hl.2), lfL_len, hl.1], backL_byt hl.2 _⟩
  obtain ⟨l, hl, e⟩ := List.mem_map.1 (hp.symm.subset (mem_allW.2 ⟨rfl, hs⟩))
  have hl := mem_allW.1 hl
  exact ⟨l, hl.2, hl.1, e⟩
end Go.Pure

/-! ## Q38 -/
namespace Go.Pure
open Go Go.Eng
def ER (w : List Int) : List (Nat → Int) := (List.range w.length).map fun j => rot w j
def EW (ws : List (List Int)) : List (Nat → Int) := ws.flatMap ER
theorem tlist_EW (ws : List (List Int)) : ∀ k : Nat, k ≤ ws.length → (tlist ws k).map (tw ws) = EW (ws.take k)
  | 0, _ => rfl
  | k + 1, hk => by
    have ih := tlist_EW ws k (by omega)
    rw [tlist, List.map_append, ih, List.take_add_one, List.getElem?_eq_getElem (by omega)]
    unfold EW
    rw [List.flatMap_append]
    congr 1
    simp only [Option.toList_some, List.flatMap_cons, List.flatMap_nil, List.append_nil]
    have e : rdl ws (k : Int) = ws[k] := by
      unfold rdl
      rw [Int.toNat_natCast, List.getD_eq_getElem?_getD, List.getElem?_eq_getElem (by omega)]
      rfl
    unfold turnsOf ER
    rw [List.map_map, e]
    refine List.map_congr_left fun j _ => ?_
    show tw ws ((k : Int), (j : Int)) = rot ws[k] j
    rw [tw_om, e]
    rfl
theorem EW_app (a b : List (List Int)) : EW (a ++ b) = EW a ++ EW b := List.flatMap_append
theorem EW_perm {a b : List (List Int)} (h : a.Perm b) : (EW a).Perm (EW b) := h.flatMap_right _
theorem rot_add (u : List Int) (q : Nat) : rot u (q + u.length) = rot u q := by
  rw [← rot_mod (q + u.length), Nat.add_mod_right, rot_mod]
theorem rot_addm (u : List Int) (q k : Nat) : rot u (k * u.length + q) = rot u q := by
  rw [← rot_mod (k * u.length + q), Nat.add_comm, Nat.add_mul_mod_self_right, rot_mod]
theorem ER_turn {w : List Int} {r : Nat} (hr : r ≤ w.length) (hn : 0 < w.length) : (ER (turnS w r)).Perm (ER w) := by
  have hl := turnS_len w r
  have e : ER (turnS w r) = (ER w).drop r ++ (ER w).take r := by
    refine List.ext_getElem (by unfold ER; simp [hl]; omega) fun j h1 h2 => ?_
    unfold ER at h1 h2 ⊢
    rw [List.length_map, List.length_range, hl] at h1
    rw [List.getElem_map, List.getElem_range, rot_rot hr hn]
    rcases Nat.lt_or_ge j (w.length - r) with g | g
    · rw [List.getElem_append_left (by simp; exact g), List.getElem_drop, List.getElem_map, List.getElem_range]
    · rw [List.getElem_append_right (by simp; omega), List.getElem_take, List.getElem_map, List.getElem_range]
      simp only [List.length_drop, List.length_map, List.length_range]
      rw [← rot_add w (j - (w.length - r))]
      congr 1
      omega
  rw [e]
  refine List.perm_append_comm.trans ?_
  rw [List.take_append_drop]
theorem rot_rep {r : List Int} {k : Nat} (hr : 0 < r.length) (hk : 0 < k) (q : Nat) : rot (rep r k) q = rot r q := by
  funext d
  show om (rep r k) (q + d) = om r (q + d)
  exact om_rep hr hk _
theorem ER_rep {r : List Int} {k : Nat} (hr : 0 < r.length) (hk : 0 < k) : ER (rep r k) = EW (List.replicate k r) := by
  have h1 : ∀ m : Nat, (List.range (m * r.length)).map (fun j => rot r j) = EW (List.replicate m r) := fun m => by
    induction m with
    | zero => simp [EW]
    | succ m ih =>
      rw [List.replicate_succ', EW_app, Nat.succ_mul, List.range_add, List.map_append, ih, List.map_map]
      congr 1
      unfold EW ER
      simp only [List.flatMap_cons, List.flatMap_nil, List.append_nil]
      exact List.map_congr_left fun j _ => rot_addm r j m
  rw [← h1 k]
  unfold ER
  rw [rep_length, Int.toNat_natCast]
  exact List.map_congr_left fun j _ => rot_rep hr hk j
/-- The rings' roots, each asx often asx it is there. -/
def expR (rs : List RT) : List (List Int) := rs.flatMap fun r => List.replicate r.2.toNat r.1
def exs (ws : List (List Int)) : List (List Int) := expR (ringS ws)
theorem ER_ring {w : List Int} (hw : 0 < w.length) : (ER w).Perm (EW (List.replicate (ringOf w).2.toNat (ringOf w).1)) := by
  have hb := lrot_bd w
  have hl := lw_len w
  have h1 : (ER (lw w)).Perm (ER w) := by
    have := ER_turn (w := w) (r := (lrot w).toNat) (by omega) hw
    rwa [Int.toNat_of_nonneg hb.1] at this
  have h2 := unring_root (c := lw w) (by omega)
  have ht := times_pos (c := lw w) (by omega)
  have hr := root_len (c := lw w) (by omega)
  have hp := rl_range (u := lw w) (by omega)
  have h3 := ER_rep (r := rootW (lw w)) (k := (timesW (lw w)).toNat) (by omega) (by omega)
  rw [Int.toNat_of_nonneg (by omega), h2] at h3
  rw [h3] at h1
  exact h1.symm
theorem EW_rings : ∀ ws : List (List Int), (EW ws).Perm (EW (expR (ringsOf ws)))
  | [] => .refl _
  | w :: ws => by
    have ih := EW_rings ws
    rw [show w :: ws = [w] ++ ws from rfl, EW_app, ringsOf_append]
    unfold expR
    rw [List.flatMap_append, EW_app]
    refine List.Perm.append ?_ ih
    by_cases h : 0 < w.length
    · have e : ringsOf [w] = [ringOf w] := by unfold ringsOf; simp [h]
      rw [e]
      have := ER_ring h
      unfold EW at this ⊢
      simpa using this
    · have e : ringsOf [w] = [] := by unfold ringsOf; simp [h]
      have e2 : w = [] := List.eq_nil_of_length_eq_zero (by omega)
      rw [e, e2]
      unfold EW ER
      simp
theorem EW_exs (ws : List (List Int)) : (EW ws).Perm (EW (exs ws)) := by
  refine (EW_rings ws).trans (EW_perm ?_)
  unfold exs expR
  exact (ringS_perm ws).symm.flatMap_right _
theorem root_lyn {w : List Int} (hw : 0 < w.length) : LynB (ringOf w).1 = true := by
  have hc : 0 < (lw w).length := by rw [lw_len]; exact hw
  generalize hcd : lw w = c at hc
  have hz : lrot c = 0 := by rw [← hcd]; exact lrot_lw w
  have hle : ∀ q, ¬ Lt (rot c q) (om c) := fun q => by
    have fl := lrot_FL hc
    have := fl.any q
    have e0 : lrotK c c.length = 0 := by
      have : (lrotK c c.length : Int) = 0 := hz
      omega
    rw [e0] at this
    have e1 : rot c 0 = om c := by funext d; show om c (0 + d) = _; rw [Nat.zero_add]
    rwa [e1] at this
  obtain ⟨p, hp, p1, p2, ho, hmin⟩ := rl_spec hc
  have hroot : (ringOf w).1 = c.take p := by
    show rootW (lw w) = _
    rw [hcd]
    unfold rootW
    rw [hp]
    rfl
  rw [hroot]
  have hom : om c = om (c.take p) := funext ho
  generalize hr : c.take p = r at hom
  have hrl : r.length = p := by rw [← hr, List.length_take]; omega
  have hrot : ∀ q, rot c q = rot r q := fun q => by
    funext d
    show om c (q + d) = om r (q + d)
    rw [hom]
  have hlt : ∀ j, 0 < j → j < p → Lt (om r) (rot r j) := fun j j0 hj => by
    rcases lt_tri (om r) (rot r j) with a | a | a
    · exact a
    · exfalso
      have : Per (om c) j := fun i => by
        have := a i
        rw [hom, this]
        show om r (i + j) = om r (j + i)
        rw [Nat.add_comm]
      have := hmin j j0 this
      omega
    · have := hle j
      rw [hrot, hom] at this
      exact absurd a this
  rw [LynB_iff]
  refine ⟨by omega, fun j j0 hj => ?_⟩
  rw [cmpL_neg_iff _ _ (by rw [List.length_drop]; omega)]
  obtain ⟨d, h1, h2⟩ := hlt j j0 (by omega)
  have hdr : ∀ e, lt (r.drop j) e = lt r (j + e) := fun e => by
    unfold lt
    rw [List.getD_eq_getElem?_getD, List.getD_eq_getElem?_getD, List.getElem?_drop]
  have hro : ∀ e, rot r j e = om r (j + e) := fun e => rfl
  rcases Nat.lt_or_ge d (p - j) with g | g
  · refine ⟨d, by rw [List.length_drop]; omega, fun e he => ?_, ?_⟩
    · have := h1 e he
      rw [hro, om_lt (by omega), om_lt (by omega)] at this
      rw [hdr]; exact this
    · rw [hro, om_lt (by omega), om_lt (by omega)] at h2
      rw [hdr]; exact h2
  · exfalso
    have := hle (p - j)
    rw [hrot, hom] at this
    have hper := om_per r
    rw [hrl] at hper
    refine this ⟨d - (p - j), fun i hi => ?_, ?_⟩
    · have h3 := h1 (p - j + i) (by omega)
      rw [hro, show j + (p - j + i) = i + p by omega, hper] at h3
      exact h3
    · have h3 := h2
      rw [hro, show j + d = (d - (p - j)) + p by omega, hper] at h3
      show om r (p - j + (d - (p - j))) < om r (d - (p - j))
      rw [show p - j + (d - (p - j)) = d by omega]
      exact h3
theorem cmpL_split : ∀ a b : List Int, cmpL a b < 0 → (∃ d, d < a.length ∧ d < b.length ∧ (∀ e, e < d → lt a e = lt b e) ∧ lt a d < lt b d) ∨ a.length < b.length ∧ ∀ e, e < a.length → lt a e = lt b e
  | [], [], h => by simp [cmpL] at h
  | [], y :: b, _ => .inr ⟨by simp, fun e he => by simp at he⟩
  | _ :: _, [], h => by simp [cmpL] at h
  | x :: a, y :: b, h => by
    rw [cmpL] at h
    split at h
    · rename_i c
      exact .inl ⟨0, by simp, by simp, fun e he => by omega, c⟩
    · split at h
      · omega
      · have hxy : x = y := by omega
        rcases cmpL_split a b h with ⟨d, h1, h2, h3, h4⟩ | ⟨h1, h2⟩
        · refine .inl ⟨d + 1, by simp; omega, by simp; omega, fun e he => ?_, ?_⟩
          · rcases e with _ | e
            · exact hxy
            · exact h3 e (by omega)
          · exact h4
        · refine .inr ⟨by simp; omega, fun e he => ?_⟩
          rcases e with _ | e
          · exact hxy
          · exact h2 e (by simp at he; omega)
theorem lyn_lt {a b : List Int} (ha : 0 < a.length) (hb : LynB b = true) (h : cmpL a b < 0) : Lt (om a) (om b) := by
  rcases cmpL_split a b h with ⟨d, h1, h2, h3, h4⟩ | ⟨h1, h2⟩
  · exact ⟨d, fun e he => by rw [om_lt (by omega), om_lt (by omega)]; exact h3 e he, by rw [om_lt h1, om_lt h2]; exact h4⟩
  · exact longer ha hb h1 fun e he => (h2 e he).symm
theorem lyn_le {a b : List Int} (ha : LynB a = true) (hb : LynB b = true) : cmpL a b ≤ 0 ↔ ¬ Lt (om b) (om a) := by
  have hal := ((LynB_iff a).1 ha).1
  have hbl := ((LynB_iff b).1 hb).1
  constructor
  · intro h
    rcases Int.lt_or_eq_of_le h with g | g
    · exact (lyn_lt hal hb g).asymm
    · rw [(cmpL_eq a b).1 g]; exact fun h => h.asymm h
  · intro h
    rcases Int.lt_or_le 0 (cmpL a b) with g | g
    · exact absurd (lyn_lt hbl ha (by rw [cmpL_anti a b]; omega)) h
    · exact g
theorem rwW_eq (l : List Int) : (cycL (lfL l)).map (wordC l) = (ringW l).reverse := by
  unfold ringW
  rw [List.map_reverse, List.reverse_reverse]
theorem EW_rows {l : List Int} (hl : ByteL l) : (EW (ringW l)).Perm ((iota l.length).map (U l)) := by
  have hlen : (ringW l).length = (cycL (lfL l)).length := by unfold ringW; rw [List.length_map, List.length_reverse]
  have h0 := tlist_EW (ringW l) (ringW l).length (Nat.le_refl _)
  rw [List.take_length] at h0
  rw [← h0, hlen]
  refine (turns_rows hl _ (Nat.le_refl _)).trans ?_
  rw [List.take_of_length_le (by rw [List.length_reverse]; exact Nat.le_refl _)]
  have hc := cycL_perm (lfL_perm hl)
  rw [lfL_len] at hc
  exact (((List.reverse_perm _).flatten).trans hc).map _
/-- Words whose rotations are the rows turn to the bytes. -/
theorem turn_any {l : List Int} (hl : ByteL l) {ws : List (List Int)} {T : List (Int × Int)} (hp : T.Perm (tlist ws ws.length)) (ho : T.Pairwise (ordO ws)) (hE : (EW ws).Perm (EW (ringW l))) : T.map (lastB ws) = l := by
  have h1 : (T.map (tw ws)).Perm ((iota l.length).map (U l)) := by
    refine (hp.map _).trans ?_
    have h0 := tlist_EW ws ws.length (Nat.le_refl _)
    rw [List.take_length] at h0
    rw [h0]
    exact hE.trans (EW_rows hl)
  have s1 : (T.map (tw ws)).Pairwise fun a b => ¬ Lt b a := List.pairwise_map.2 (ho.imp fun {t u} h hlt => by
    rcases h with h | h
    · exact h.asymm hlt
    · exact hlt.not_eq fun i => (h.1 i).symm)
  have s2 : ((iota l.length).map (U l)).Pairwise fun a b => ¬ Lt b a := List.pairwise_map.2 (List.Pairwise.imp_of_mem (fun {i k} hi hk h => by
    have hi := mem_iota.1 hi
    have hk := mem_iota.1 hk
    exact U_le hl hi.1 (Int.le_of_lt h) hk.2) (iota_inc l.length))
  have same : T.map (tw ws) = (iota l.length).map (U l) := h1.eq_of_pairwise (fun a b _ _ x y => by
    rcases lt_tri a b with z | z | z
    · exact absurd z y
    · exact funext z
    · exact absurd z x) s1 s2
  have hTl : T.length = l.length := by
    have := congrArg List.length same
    rwa [List.length_map, List.length_map, iota_len] at this
  refine list_ext_rd (by rw [List.length_map]; exact hTl) fun q q0 q1 => ?_
  rw [List.length_map] at q1
  rw [rd_mapP q0 q1]
  have hv := mem_all.1 (hp.subset (rdp_mem (l := T) q0 q1))
  have hU : tw ws (rdp T q) = U l q := by
    have e1 : (T.map (tw ws))[q.toNat]? = some (tw ws (rdp T q)) := by
      rw [List.getElem?_map, List.getElem?_eq_getElem (by omega)]
      unfold rdp
      rw [List.getD_eq_getElem?_getD, List.getElem?_eq_getElem (by omega)]
      rfl
    have e2 : ((iota l.length).map (U l))[q.toNat]? = some (U l q) := by
      rw [List.getElem?_map, List.getElem?_eq_getElem (by rw [iota_len]; omega)]
      have := rd_iota (n := l.length) q0 (by omega)
      rw [rd_getI q0 (by rw [iota_len]; omega)] at this
      rw [this]
      rfl
    rw [same, e2] at e1
    exact (Option.some.inj e1).symm
  obtain ⟨m, m0, hm⟩ := row_round hl q0 (by omega : q < l.length)
  obtain ⟨a1, a2, a3, a4⟩ := hv
  have hw0 : 0 < (rdl ws (rdp T q).1).length := by omega
  generalize hwl : (rdl ws (rdp T q).1).length = wl at hw0 a4
  have hlast : U l q (m * wl - 1) = rd l q := U_last hm m0 hw0
  rw [← hlast, ← hU]
  have hpos : 0 < m * wl := Nat.mul_pos m0 hw0
  unfold lastB tw rd
  rw [hwl]
  congr 1
  obtain ⟨j, hj⟩ : ∃ j : Nat, (rdp T q).2 = j := ⟨(rdp T q).2.toNat, by omega⟩
  rw [hj, Int.toNat_natCast, show (j : Int) + (wl : Int) - 1 = ((j + wl - 1 : Nat) : Int) by omega, ← Int.natCast_emod, Int.toNat_natCast]
  have e : j + (m * wl - 1) = (j + wl - 1) + wl * (m - 1) := by
    obtain ⟨m', rfl⟩ : ∃ m', m = m' + 1 := ⟨m - 1, by omega⟩
    rw [Nat.succ_mul, Nat.add_sub_cancel, Nat.mul_comm wl m']
    omega
  rw [e, Nat.add_mul_mod_self_left]
theorem exs_lyn {ws : List (List Int)} : ∀ v ∈ exs ws, LynB v = true := fun v hv => by
  obtain ⟨r, hr, h⟩ := List.mem_flatMap.1 hv
  obtain ⟨_, rfl⟩ := List.mem_replicate.1 h
  obtain ⟨w, _, hw, rfl⟩ := mem_ringS hr
  exact root_lyn hw
theorem expR_sorted : ∀ {rs : List RT}, rs.Pairwise (fun a b => kcmp a b ≤ 0) → (expR rs).Pairwise fun a b => cmpL a b ≤ 0
  | [], _ => .nil
  | r :: rs, h => by
    obtain ⟨h1, h2⟩ := List.pairwise_cons.1 h
    have ih := expR_sorted h2
    show (List.replicate r.2.toNat r.1 ++ expR rs).Pairwise _
    rw [List.pairwise_append]
    refine ⟨List.pairwise_replicate.2 (.inr (by rw [(cmpL_eq r.1 r.1).2 rfl]; omega)), ih, fun a ha b hb => ?_⟩
    obtain ⟨_, rfl⟩ := List.mem_replicate.1 ha
    obtain ⟨q, hq, hqb⟩ := List.mem_flatMap.1 hb
    obtain ⟨_, rfl⟩ := List.mem_replicate.1 hqb
    have := kcmp_le_iff.1 (h1 q hq)
    rcases this with g | g
    · omega
    · rw [(cmpL_eq _ _).2 g.1]; omega
theorem exs_bytes {ws : List (List Int)} (hb : ∀ w ∈ ws, ByteL w) : ∀ v ∈ exs ws, ByteL v := fun v hv => by
  obtain ⟨r, hr, h⟩ := List.mem_flatMap.1 hv
  obtain ⟨_, rfl⟩ := List.mem_replicate.1 h
  obtain ⟨w, h1, hw, rfl⟩ := mem_ringS hr
  have h2 := hb w h1
  exact (ByteL.append (h2.drop _) (h2.take _)).take _
/-- Of words turned the rings' words are their roots. -/
theorem turned_ext {ws : List (List Int)} (hb : ∀ w ∈ ws, ByteL w) {T : List (Int × Int)} (hp : T.Perm (tlist ws ws.length)) (ho : T.Pairwise (ordO ws)) : (cycL (lfL (T.map (lastB ws)))).map (wordC (T.map (lastB ws))) = exs ws ∧ ∀ (xs : List (List Int)) (T' : List (Int × Int)), exs xs = exs ws → T'.Perm (tlist xs xs.length) → T'.Pairwise (ordO xs) → T'.map (lastB xs) = T.map (lastB ws) := by
  have hlyn : ∀ v ∈ (exs ws).reverse, LynB v = true := fun v hv => exs_lyn v (List.mem_reverse.1 hv)
  have hdown : (exs ws).reverse.Pairwise fun a b => ¬ Lt (om a) (om b) := List.pairwise_reverse.2 (List.Pairwise.imp_of_mem (fun {a b} ha hb h => (lyn_le (exs_lyn a ha) (exs_lyn b hb)).1 h) (expR_sorted (ringS_sorted ws)))
  have hbs : ByteL (exs ws).reverse.flatten := fun x hx => by
    obtain ⟨v, hv, hxv⟩ := List.mem_flatten.1 hx
    exact exs_bytes hb v (List.mem_reverse.1 hv) x hxv
  have hbw := bws_words hlyn hdown
  obtain ⟨l, hl, _, hback⟩ := back_onto hbs
  have hrw : ringW l = (exs ws).reverse := by rw [← bws_back hl, hback, hbw]
  have hE : ∀ xs : List (List Int), exs xs = exs ws → (EW xs).Perm (EW (ringW l)) := fun xs e => by
    refine (EW_exs xs).trans ?_
    rw [hrw, e]
    exact EW_perm (List.reverse_perm _).symm
  have hT := turn_any hl hp ho (hE ws rfl)
  rw [hT]
  exact ⟨by rw [rwW_eq, hrw, List.reverse_reverse], fun xs T' e hp' ho' => turn_any hl hp' ho' (hE xs e)⟩
end Go.Pure

/-! ## Q39 -/
namespace Go.Pure
open Go Go.Eng
def backE : List (List Int) → List Int → Int → List Int → Option (List (List Int))
  | all, _, _, [] => if 0 < all.length then none else some []
  | all, last, many, n :: ts => if n < 1 ∨ (all.length : Int) < n then none else if rdl all (n - 1) ≠ rdl all 0 ∨ last = rdl all 0 ∧ n < many then none else (backE (all.drop n.toNat) (rdl all 0) n ts).map fun p => rep (rdl all 0) n :: p
def refB : List (List Int) → List Int → Option (List (List Int) × List (List Int))
  | all, [] => some ([], all)
  | all, n :: ts => if n < 1 ∨ (all.length : Int) < n then none else (refB (all.drop n.toNat) ts).map fun p => ((all.take n.toNat).flatten :: p.1, p.2)
def ExtR (ws : List (List Int)) (L TS : List Int) (e : Int) : Prop :=
  (e = 2 ∧ (1000 < ws.length ∨ 100000 < ws.flatten.length) ∧ L = [] ∧ TS = []) ∨
  (¬ (1000 < ws.length ∨ 100000 < ws.flatten.length) ∧ e = 1 ∧ (∃ w ∈ ws, w.length = 0) ∧ L = [] ∧ TS = []) ∨
  (¬ (1000 < ws.length ∨ 100000 < ws.flatten.length) ∧ e = 0 ∧ (∀ w ∈ ws, 0 < w.length) ∧ (∃ T : List (Int × Int), T.Perm (tlist ws ws.length) ∧ T.Pairwise (ordO ws) ∧ L = T.map (lastB ws)) ∧ TS = (ringS ws).map Prod.snd)
theorem ExtR.same {ws xs : List (List Int)} {L L' TS TS' : List Int} {e e' : Int} (h : ExtR ws L TS e) (h' : ExtR xs L' TS' e') (hb : ∀ w ∈ ws, ByteL w) (hl : xs.length = ws.length) (hf : xs.flatten.length = ws.flatten.length) (hz : (∃ w ∈ xs, w.length = 0) ↔ ∃ w ∈ ws, w.length = 0) (hr : (ringsOf xs).Perm (ringsOf ws)) : e' = e ∧ L' = L ∧ TS' = TS := by
  have hS := ringS_congr hr
  unfold ExtR at h'
  rw [hl, hf, hz, hS] at h'
  rcases h with ⟨rfl, c, rfl, rfl⟩ | ⟨c, rfl, d, rfl, rfl⟩ | ⟨c, rfl, d, ⟨T, hp, ho, rfl⟩, rfl⟩
  · rcases h' with ⟨rfl, _, rfl, rfl⟩ | ⟨c', _⟩ | ⟨c', _⟩
    · exact ⟨rfl, rfl, rfl⟩
    · exact absurd c c'
    · exact absurd c c'
  · rcases h' with ⟨_, c', _⟩ | ⟨_, rfl, _, rfl, rfl⟩ | ⟨_, _, d', _⟩
    · exact absurd c' c
    · exact ⟨rfl, rfl, rfl⟩
    · have d2 := hz.2 d
      obtain ⟨w, hw, e⟩ := d2
      have := d' w hw
      omega
  · rcases h' with ⟨_, c', _⟩ | ⟨_, _, d', _⟩ | ⟨_, rfl, _, ⟨T', hp', ho', rfl⟩, rfl⟩
    · exact absurd c' c
    · obtain ⟨w, hw, e⟩ := d'
      have := d w hw
      omega
    · refine ⟨rfl, (turned_ext hb hp ho).2 xs T' (by unfold exs; rw [hS]) (by rw [hl] at *; exact hp') ho', rfl⟩
end Go.Pure

/-! ## E30 -/
namespace Go.Eng
open Go Go.RowKit
section
variable {P : Program} {n : Nd} {B : Nat} {w0 w00 : World} {F : Exit → Act → World → Prop} {L : Env} {R : List Row}
def LF {σ : Type} (F : Exit → Act → World → Prop) (m B : Nat) (w00 w0 : World) (Lx : σ → Env) (Rx : σ → List Row) (K : σ → Prop) : Exit → Act → World → Prop
  | .normal, a, w => ∃ s ds W, K s ∧ Below B w0 W ∧ Gd B w00 ⟨m, ds, none⟩ W ∧ Sat ⟨m, ds, none⟩ (Lx s) a ∧ Hp B W w (Rx s)
  | e, a, w => F e a w
/-- An exit on its way out. -/
def VX (n : Nd) (B : Nat) (w0 : World) (F : Exit → Act → World → Prop) (i : Nat) (L : Env) (R : List Row) : Prop := ∀ a w, Sat n L a → Hp B w0 w R → F (.exit i) a w
end
end Go.Eng

