/- Walks of Go functions, printed by a program of our own. -/
import Derived.Test.YtdfcnalkdlifiaaF9
import Derived.Test.YtdfcnalkdlifiaaF10
import Derived.Test.YtdfcnalkdlifiaaQ18
import Derived.Test.YtdfcnalkdlifiaaE17
namespace Go.Proofs.Ytdfcnalkdlifiaa
open Go Go.Eng Go.Pure
set_option linter.unusedVariables false
theorem wk_all {s : List Int} {k : Int} (h : k = (facL s).length) : wordsK s (facL s) k = bws s := by rw [h]; rfl
/-! whorl/bij.Turn -/
set_option maxRecDepth 100000 in
set_option maxHeartbeats 1000000 in
theorem bijTurn_ct {w : World} {A_u : Option Addr} {n_u c_u : Nat} {u : List Int} (h_u : Rd w A_u n_u c_u 1 (ints .u8 u)) (bh_u : ByteL u) (hN : u.length ≤ 100000) :
    Ct Try.prog 14 #[.slice A_u n_u c_u] w.heap.size w [] (fun v R' => ∃ (lt : List (Int × Int)) (A : Option Addr) (c : Nat), v = .tuple #[.slice A lt.length c, .int .i64 0] ∧ lt.Perm (tlist (bws u) (bws u).length) ∧ lt.Pairwise (ordO (bws u)) ∧ R' = [⟨5, 1, A, lt.length, c, ints .u8 (lt.map (lastB (bws u))), false⟩]) := by
  obtain rfl := h_u.lenI
  refine fn2 Try.func14 rfl rfl rfl ?_
  have m_u := h_u.max
  have hfl := facL_len u
  refine w_seq ?_
  refine w_reg ?_
  refine wr_y rfl (y_assign rfl) ?_
  refine wr_y rfl (y_assign rfl) ?_
  refine wr_nil ?_
  refine w_seq ?_
  refine w_seq ?_
  refine w_reg ?_
  refine wr_y rfl (y_move rfl) ?_
  refine wr_y rfl (y_len Try.underlying22 rfl) ?_
  refine wr_y rfl (Yl.f (y_gt rfl rfl) (by omega)) ?_
  refine wr_nil ?_
  refine w_false rfl ?_
  refine w_skip ?_
  refine w_seq ?_
  refine w_reg ?_
  refine wr_sub (R1 := [⟨22, 1, none, 0, 0, [], false⟩]) (Sub.refl _) (fun _ h => h.nil 22 1) ?_
  refine wr_y rfl (y_assign rfl) ?_
  refine wr_nil ?_
  refine w_seq ?_
  refine w_reg ?_
  refine wr_y rfl (y_assign rfl) ?_
  refine wr_nil ?_
  refine w_seq ?_
  refine w_seq ?_
  refine w_reg ?_
  refine wr_y rfl (y_move rfl) ?_
  refine wr_a rfl (a_callF en35 rfl (Ct.fresh (fun w hw => factors_ct ((h_u.c _) w hw) (by omega)))) ?_
  rintro _ _ ⟨_, rfl, A_1, c_2, rfl, rfl⟩
  refine wr_y rfl (y_len Try.underlying35 rfl) ?_
  refine wr_y rfl (y_move rfl) ?_
  refine wr_nil ?_
  refine w_block ?_
  refine w_loop6 (fun (k : Int) (A1 : Option Addr) (n1 : Nat) (c1 : Nat) (vals : List Value) (a : Int) => [(0, .slice A_u u.length c_u), (4, .slice A1 n1 c1), (5, .int .i64 a), (16, .slice A_1 ((facL (u)).length) c_2), (17, .int .i64 (((facL (u)).length : Nat) : Int)), (18, .int .i64 k)]) (fun (k : Int) (A1 : Option Addr) (n1 : Nat) (c1 : Nat) (vals : List Value) (a : Int) => [⟨3, 1, A_1, (facL (u)).length, c_2, ints .i64 (facL (u)), false⟩, ⟨22, 1, A1, n1, c1, vals, false⟩]) (fun (k : Int) (A1 : Option Addr) (n1 : Nat) (c1 : Nat) (vals : List Value) (a : Int) => (0 ≤ k) ∧ (k ≤ (facL u).length) ∧ (n1 = k.toNat) ∧ (SlW .u8 w vals (wordsK u (facL u) k)) ∧ (a = ps (facL u) k)) (fun (k : Int) (A1 : Option Addr) (n1 : Nat) (c1 : Nat) (vals : List Value) (a : Int) => ((facL u).length - k).toNat) ?_ ?_
  ·
    exact ⟨0, none, 0, 0, [], 0, ⟨(by omega), (by omega), (rfl), (slw_none _ _), (rfl)⟩, (Sub.cons rfl (Sub.cons rfl (Sub.cons rfl (Sub.cons rfl (Sub.cons rfl (Sub.cons rfl Sub.nil)))))), fun _ h => h⟩
  intro k A1 n1 c1 vals a ⟨hk0, hk1, hn1, hsl, ha⟩
  refine w_seq ?_
  refine w_reg ?_
  refine wr_y rfl (y_lt rfl rfl) ?_
  refine wr_nil ?_
  refine w_seq ?_
  refine w_if rfl (fun hc1 => ?_) (fun hc1 => ?_)
  ·
    have hps := ps_succ (L := facL u) hk0 (by omega)
    have hpl := ps_le u (k + 1)
    have hnn := ps_nonneg (facL_pos u) k
    have hrp := facL_pos u _ (rd_mem (L := facL u) hk0 (by omega))
    have hsl2 : SlW .u8 w (vals ++ [.slice (cutA A_u a.toNat c_u 1) ((a + rd (facL u) k).toNat - a.toNat) (c_u - a.toNat)]) (wordsK u (facL u) (k + 1)) := by
      rw [wordsK_succ hk0, ← ha, show (rd (facL u) k).toNat = (a + rd (facL u) k).toNat - a.toNat by omega]
      exact hsl.snoc (h_u.cutI (by omega) (by omega)) (fun x hx => wf_byte (bh_u x (List.mem_of_mem_drop (List.mem_of_mem_take hx)))) (by rw [List.length_take, List.length_drop]; omega)
    refine w_skip ?_
    refine w_seq ?_
    refine w_block ?_
    refine w_seq ?_
    refine w_reg ?_
    refine wr_y rfl (y_index1 Try.underlying35 sz3 rfl rfl (rdr 0 rfl) (by omega) (by omega)) ?_
    refine wr_y rfl (y_ldI Try.underlying3 rfl rfl (rdr 0 rfl) (by omega) (by omega)) ?_
    refine wr_y rfl (y_assign rfl) ?_
    refine wr_nil ?_
    refine w_seq ?_
    refine w_reg ?_
    refine wr_y rfl (y_move rfl) ?_
    refine wr_y rfl (y_move rfl) ?_
    refine wr_y rfl (y_move rfl) ?_
    refine wr_y rfl (y_move rfl) ?_
    refine wr_y rfl (y_move rfl) ?_
    refine wr_y rfl (y_addI rfl rfl (by omega)) ?_
    refine wr_y rfl (y_slice Try.underlying22 sz5 rfl rfl rfl (h_u.c _) (by omega) (by omega) (by omega)) ?_
    refine wr_a rfl (a_lit [.slice (cutA A_u (a).toNat c_u 1) ((a + (rd (facL (u)) k)).toNat - (a).toNat) (c_u - (a).toNat)] Try.underlying30 zs22 rfl rfl rfl rfl) ?_
    rintro _ _ ⟨g_5, rfl, rfl⟩
    refine wr_a rfl (a_append 2 rfl rfl Try.underlying30 zb22 rfl rfl rfl rfl rfl (rdr 0 rfl) (by simp [Value.oneCell']) (by dsimp only; omega)) ?_
    rintro _ _ ⟨A_6, c_7, rfl, rfl⟩
    refine wr_rows (R1 := [⟨22, 1, (some ⟨g_5, 0, none⟩), 1, 1, [.slice (cutA A_u (a).toNat c_u 1) ((a + (rd (facL (u)) k)).toNat - (a).toNat) (c_u - (a).toNat)], false⟩, ⟨3, 1, A_1, (facL (u)).length, c_2, ints .i64 (facL (u)), false⟩, ⟨22, 1, A_6, (n1 + 1), c_7, vals ++ ([.slice (cutA A_u (a).toNat c_u 1) ((a + (rd (facL (u)) k)).toNat - (a).toNat) (c_u - (a).toNat)]), false⟩]) rfl ?_
    refine wr_as (v := .slice A_6 (n1 + 1) c_7) rfl ?_
    refine wr_y rfl (y_assign rfl) ?_
    refine wr_nil ?_
    refine w_reg ?_
    refine wr_y rfl (y_move rfl) ?_
    refine wr_y rfl (y_move rfl) ?_
    refine wr_y rfl (y_addI rfl rfl (by omega)) ?_
    refine wr_y rfl (y_assign rfl) ?_
    refine wr_nil ?_
    refine w_reg ?_
    refine wr_y rfl (y_addI rfl rfl (by omega)) ?_
    refine wr_y rfl (y_move rfl) ?_
    refine wr_nil ?_
    exact ⟨k + 1, A_6, n1 + 1, c_7, vals ++ ([.slice (cutA A_u (a).toNat c_u 1) ((a + (rd (facL (u)) k)).toNat - (a).toNat) (c_u - (a).toNat)]), a + (rd (facL (u)) k), ⟨(by omega), (by omega), (by omega), (hsl2), (by rw [hps, ha])⟩, (by omega), (Sub.cons rfl (Sub.cons rfl (Sub.cons rfl (Sub.cons rfl (Sub.cons rfl (Sub.cons rfl Sub.nil)))))), fun _ h => h.sel [1, 2] (by decide) rfl⟩
  ·
    refine w_exit ?_
    refine w_seq ?_
    refine w_reg ?_
    refine wr_a rfl (a_litI .u8 [] Try.underlying22 zs5 rfl rfl rfl) ?_
    rintro _ _ ⟨g_9, rfl, rfl⟩
    refine wr_y rfl (y_assign rfl) ?_
    refine wr_nil ?_
    refine w_seq ?_
    refine w_seq ?_
    refine w_reg ?_
    refine wr_y rfl (y_move rfl) ?_
    refine wr_a rfl (a_callF en36 rfl (Ct.fresh (fun w hw => turns_ct ((rdr 2 rfl) w hw) (hsl.c hw) (by rw [wk_all (show k = (facL u).length by omega), bws_flat, bws_len]; have := facL_len u; omega)))) ?_
    rintro _ _ ⟨_, rfl, lt, A_11, c_12, rfl, hpt, hst, rfl⟩
    refine wr_y rfl (y_len Try.underlying49 rfl) ?_
    refine wr_y rfl (y_move rfl) ?_
    refine wr_nil ?_
    refine w_block ?_
    refine w_loop5 (fun (q : Int) (B1 : Option Addr) (m1 : Nat) (d1 : Nat) (acc : List Int) => [(4, .slice A1 n1 c1), (8, .slice B1 m1 d1), (37, .slice A_11 lt.length c_12), (38, .int .i64 ((lt.length : Nat) : Int)), (39, .int .i64 q)]) (fun (q : Int) (B1 : Option Addr) (m1 : Nat) (d1 : Nat) (acc : List Int) => [⟨51, 2, A_11, lt.length, c_12, prs lt, false⟩, ⟨5, 1, B1, m1, d1, ints .u8 acc, false⟩, ⟨3, 1, A_1, (facL (u)).length, c_2, ints .i64 (facL (u)), false⟩, ⟨22, 1, A1, n1, c1, vals, false⟩]) (fun (q : Int) (B1 : Option Addr) (m1 : Nat) (d1 : Nat) (acc : List Int) => (0 ≤ q) ∧ (q ≤ lt.length) ∧ (m1 = acc.length) ∧ (acc.length = q.toNat) ∧ (acc = (lt.take q.toNat).map (lastB (wordsK u (facL u) k)))) (fun (q : Int) (B1 : Option Addr) (m1 : Nat) (d1 : Nat) (acc : List Int) => (lt.length - q).toNat) ?_ ?_
    ·
      exact ⟨0, some ⟨g_9, 0, none⟩, 0, 0, [], ⟨(by omega), (by omega), (rfl), (rfl), (rfl)⟩, (Sub.cons rfl (Sub.cons rfl (Sub.cons rfl (Sub.cons rfl (Sub.cons rfl Sub.nil))))), fun _ h => h⟩
    intro q B1 m1 d1 acc ⟨hq0, hq1, hm1, haq, hacc⟩
    have hll : lt.length = u.length := by rw [wk_all (show k = (facL u).length by omega)] at hpt; exact bws_all hpt
    refine w_seq ?_
    refine w_reg ?_
    refine wr_y rfl (y_lt rfl rfl) ?_
    refine wr_nil ?_
    refine w_seq ?_
    refine w_if rfl (fun hc2 => ?_) (fun hc2 => ?_)
    ·
      have ht := mem_all.1 (hpt.subset (rdp_mem (l := lt) hq0 (by omega)))
      have htm := ht.2.2
      have he0 := Int.emod_nonneg ((rdp lt q).2 + (rdl (wordsK u (facL u) k) (rdp lt q).1).length - 1) (show ((rdl (wordsK u (facL u) k) (rdp lt q).1).length : Int) ≠ 0 by omega)
      have he1 := Int.emod_lt_of_pos ((rdp lt q).2 + (rdl (wordsK u (facL u) k) (rdp lt q).1).length - 1) (show (0 : Int) < (rdl (wordsK u (facL u) k) (rdp lt q).1).length by omega)
      refine w_skip ?_
      refine w_seq ?_
      refine w_block ?_
      refine w_seq ?_
      refine w_reg ?_
      refine wr_y rfl (y_index Try.underlying49 sz51 rfl rfl (rdr 0 rfl) rfl (by omega) (by omega)) ?_
      refine wr_y rfl (y_ldP Try.underlying51 rfl sz51 rfl (rdr 0 rfl) (by omega) (by omega)) ?_
      refine wr_a rfl (a_alloc (sz := 2) zz51 rfl) ?_
      rintro _ _ ⟨g_15, rfl, rfl⟩
      refine wr_rows (R1 := [⟨51, 2, (some ⟨g_15, 0, none⟩), 1, 1, [.int .i64 0, .int .i64 0], false⟩, ⟨51, 2, A_11, lt.length, c_12, prs lt, false⟩, ⟨5, 1, B1, m1, d1, ints .u8 acc, false⟩, ⟨3, 1, A_1, (facL (u)).length, c_2, ints .i64 (facL (u)), false⟩, ⟨22, 1, A1, n1, c1, vals, false⟩]) rfl ?_
      refine wr_n (a_storeAll (vs := [.int .i64 ((rdp lt q).1), .int .i64 ((rdp lt q).2)]) 0 rfl sz51 rfl rfl rfl (by intro v hv; simp at hv; rcases hv with rfl | rfl <;> rfl) rfl) ?_
      rintro _ _ rfl
      refine wr_rows (R1 := [⟨51, 2, (some ⟨g_15, 0, none⟩), 1, 1, [.int .i64 ((rdp lt q).1), .int .i64 ((rdp lt q).2)], false⟩, ⟨51, 2, A_11, lt.length, c_12, prs lt, false⟩, ⟨5, 1, B1, m1, d1, ints .u8 acc, false⟩, ⟨3, 1, A_1, (facL (u)).length, c_2, ints .i64 (facL (u)), false⟩, ⟨22, 1, A1, n1, c1, vals, false⟩]) rfl ?_
      refine wr_nil ?_
      refine w_seq ?_
      refine w_reg ?_
      refine wr_y rfl (y_move rfl) ?_
      refine wr_y rfl (y_indexIn (q := 0) (rdR 0 (r := ⟨51, 2, (some ⟨g_15, 0, none⟩), 1, 1, [.int .i64 ((rdp lt q).1), .int .i64 ((rdp lt q).2)], false⟩) rfl) Try.underlying51 sz3 rfl rfl (Nat.le_of_ble_eq_true rfl) (by decide) (by decide) rfl) ?_
      refine wr_y rfl (y_ldIn (rdR 0 (r := ⟨51, 2, (some ⟨g_15, 0, none⟩), 1, 1, [.int .i64 ((rdp lt q).1), .int .i64 ((rdp lt q).2)], false⟩) rfl) Try.underlying3 rfl rfl rfl) ?_
      refine wr_y rfl (y_index1 Try.underlying30 sz22 rfl rfl (rdr 4 rfl) (by first | exact ht.1 | (have := ht.2.1; rw [wordsK_len] at this; omega)) (by first | exact ht.1 | (have := ht.2.1; rw [wordsK_len] at this; omega))) ?_
      refine hsl.elim (i := (rdp lt q).1) (by first | exact ht.1 | exact ht.2.1) (by first | exact ht.1 | exact ht.2.1) (fun A_16 c_17 hv_18 hr_19 hb_20 mhr_19 => ?_)
      refine wr_y rfl (y_ld Try.underlying22 rfl rfl rfl (rdr 4 rfl) hv_18) ?_
      refine wr_y rfl (y_assign rfl) ?_
      refine wr_nil ?_
      refine w_reg ?_
      refine wr_y rfl (y_move rfl) ?_
      refine wr_y rfl (y_move rfl) ?_
      refine wr_y rfl (y_indexIn (q := 1) (rdR 0 (r := ⟨51, 2, (some ⟨g_15, 0, none⟩), 1, 1, [.int .i64 ((rdp lt q).1), .int .i64 ((rdp lt q).2)], false⟩) rfl) Try.underlying51 sz3 rfl rfl (Nat.le_of_ble_eq_true rfl) (by decide) (by decide) rfl) ?_
      refine wr_y rfl (y_ldIn (rdR 0 (r := ⟨51, 2, (some ⟨g_15, 0, none⟩), 1, 1, [.int .i64 ((rdp lt q).1), .int .i64 ((rdp lt q).2)], false⟩) rfl) Try.underlying3 rfl rfl rfl) ?_
      refine wr_y rfl (y_move rfl) ?_
      refine wr_y rfl (y_len Try.underlying22 rfl) ?_
      refine wr_y rfl (y_addI rfl rfl (by omega)) ?_
      refine wr_y rfl (y_subI rfl rfl (by omega)) ?_
      refine wr_y rfl (y_move rfl) ?_
      refine wr_y rfl (y_len Try.underlying22 rfl) ?_
      refine wr_y rfl (y_rem rfl rfl (by omega) (by omega)) ?_
      refine wr_y rfl (y_index1 Try.underlying22 sz5 rfl rfl (hr_19.c _) (by omega) (by omega)) ?_
      refine wr_y rfl (y_ldI Try.underlying5 rfl rfl (hr_19.c _) (by omega) (by omega)) ?_
      refine wr_a rfl (a_litI .u8 [rd (rdl (wordsK u (facL u) k) ((rdp lt q).1)) (((((rdp lt q).2) + (((rdl (wordsK u (facL u) k) ((rdp lt q).1)).length : Nat) : Int)) - 1) % (((rdl (wordsK u (facL u) k) ((rdp lt q).1)).length : Nat) : Int))] Try.underlying22 zs5 rfl rfl rfl) ?_
      rintro _ _ ⟨g_22, rfl, rfl⟩
      refine wr_a rfl (a_appendI 3 rfl Try.underlying22 zb5 rfl rfl rfl (rdr 0 rfl) (by omega)) ?_
      rintro _ _ ⟨A_23, c_24, rfl, rfl⟩
      refine wr_rows (R1 := [⟨5, 1, (some ⟨g_22, 0, none⟩), 1, 1, ints .u8 ([rd (rdl (wordsK u (facL u) k) ((rdp lt q).1)) (((((rdp lt q).2) + (((rdl (wordsK u (facL u) k) ((rdp lt q).1)).length : Nat) : Int)) - 1) % (((rdl (wordsK u (facL u) k) ((rdp lt q).1)).length : Nat) : Int))]), false⟩, ⟨51, 2, (some ⟨g_15, 0, none⟩), 1, 1, [.int .i64 ((rdp lt q).1), .int .i64 ((rdp lt q).2)], false⟩, ⟨51, 2, A_11, lt.length, c_12, prs lt, false⟩, ⟨5, 1, A_23, (m1 + 1), c_24, ints .u8 (acc ++ ([rd (rdl (wordsK u (facL u) k) ((rdp lt q).1)) (((((rdp lt q).2) + (((rdl (wordsK u (facL u) k) ((rdp lt q).1)).length : Nat) : Int)) - 1) % (((rdl (wordsK u (facL u) k) ((rdp lt q).1)).length : Nat) : Int))])), false⟩, ⟨3, 1, A_1, (facL (u)).length, c_2, ints .i64 (facL (u)), false⟩, ⟨22, 1, A1, n1, c1, vals, false⟩]) rfl ?_
      refine wr_as (v := .slice A_23 (m1 + 1) c_24) rfl ?_
      refine wr_y rfl (y_assign rfl) ?_
      refine wr_nil ?_
      refine w_reg ?_
      refine wr_y rfl (y_addI rfl rfl (by omega)) ?_
      refine wr_y rfl (y_move rfl) ?_
      refine wr_nil ?_
      exact ⟨q + 1, A_23, m1 + 1, c_24, acc ++ ([rd (rdl (wordsK u (facL u) k) ((rdp lt q).1)) (((((rdp lt q).2) + (((rdl (wordsK u (facL u) k) ((rdp lt q).1)).length : Nat) : Int)) - 1) % (((rdl (wordsK u (facL u) k) ((rdp lt q).1)).length : Nat) : Int))]), ⟨(by omega), (by omega), (by rw [List.length_append, hm1]; rfl), (by rw [List.length_append, haq, List.length_singleton]; omega), (by rw [take_rdp hq0 (by omega), List.map_append, hacc]; rfl)⟩, (by omega), (Sub.cons rfl (Sub.cons rfl (Sub.cons rfl (Sub.cons rfl (Sub.cons rfl Sub.nil))))), fun _ h => h.sel [2, 3, 4, 5] (by decide) rfl⟩
    ·
      refine w_exit ?_
      refine w_seq ?_
      refine w_reg ?_
      refine wr_y rfl (y_move rfl) ?_
      refine wr_y rfl (y_assign rfl) ?_
      refine wr_y rfl (y_assign rfl) ?_
      refine wr_nil ?_
      refine w_retR (R1 := [⟨5, 1, B1, m1, d1, ints .u8 acc, false⟩]) (fun _ h => h.sel [1] (by decide) rfl) ?_
      refine ⟨_, _, rfl, rfl, ?_⟩
      have e : k = (facL u).length := by omega
      rw [wk_all e] at hpt hst hacc
      rw [List.take_of_length_le (by omega)] at hacc
      subst hacc
      obtain rfl : m1 = lt.length := by rw [hm1, List.length_map]
      exact ⟨lt, _, _, rfl, hpt, hst, rfl⟩

/-! whorl/whorlref23.Last -/
set_option maxRecDepth 100000 in
set_option maxHeartbeats 1000000 in
theorem last23_ct {w : World} {A_ws : Option Addr} {n_ws c_ws : Nat} {vals_ws : List Value} {ws : List (List Int)} (h_ws : Rd w A_ws n_ws c_ws 1 vals_ws) (s_ws : SlW .u8 w vals_ws ws) (hN : ws.flatten.length ≤ 400000 ∧ ws.length ≤ 1000000) :
    Ct Try.prog 38 #[.slice A_ws n_ws c_ws] w.heap.size w [] (fun v R' => ∃ (lt : List (Int × Int)) (A : Option Addr) (c : Nat), v = .slice A lt.length c ∧ lt.Perm (tlist ws ws.length) ∧ lt.Pairwise (ordO ws) ∧ R' = [⟨5, 1, A, lt.length, c, ints .u8 (lt.map (lastB ws)), false⟩]) := by
  obtain rfl : n_ws = ws.length := by have := h_ws.len; have := s_ws.1; omega
  refine fn1 Try.func38 rfl rfl rfl ?_
  have m_ws := h_ws.max
  refine w_seq ?_
  refine w_reg ?_
  refine wr_y rfl (y_assign rfl) ?_
  refine wr_nil ?_
  refine w_seq ?_
  refine w_reg ?_
  refine wr_y rfl (y_move rfl) ?_
  refine wr_a rfl (a_callF en60 rfl (Ct.fresh (fun w hw => turns8_ct ((h_ws.c _) w hw) (s_ws.c hw) (by first | assumption | omega | decide)))) ?_
  rintro _ _ ⟨_, rfl, l8, A_1, c_2, rfl, hp8, hs8, rfl⟩
  refine wr_y rfl (y_assign rfl) ?_
  refine wr_nil ?_
  refine w_seq ?_
  refine w_reg ?_
  refine wr_sub (R1 := [⟨5, 1, none, 0, 0, ints .u8 ([]), false⟩, ⟨51, 2, A_1, l8.length, c_2, prs l8, false⟩]) (Sub.refl _) (fun _ h => h.nil 5 1) ?_
  refine wr_y rfl (y_assign rfl) ?_
  refine wr_nil ?_
  refine w_seq ?_
  refine w_seq ?_
  refine w_reg ?_
  refine wr_y rfl (y_assign rfl) ?_
  refine wr_nil ?_
  refine w_block ?_
  refine w_loop5 (fun (q : Int) (B1 : Option Addr) (m1 : Nat) (d1 : Nat) (acc : List Int) => [(0, .slice A_ws ws.length c_ws), (3, .slice A_1 l8.length c_2), (4, .slice B1 m1 d1), (5, .int .i64 q)]) (fun (q : Int) (B1 : Option Addr) (m1 : Nat) (d1 : Nat) (acc : List Int) => [⟨5, 1, B1, m1, d1, ints .u8 acc, false⟩, ⟨51, 2, A_1, l8.length, c_2, prs l8, false⟩]) (fun (q : Int) (B1 : Option Addr) (m1 : Nat) (d1 : Nat) (acc : List Int) => (0 ≤ q) ∧ (q ≤ l8.length) ∧ (m1 = acc.length) ∧ (acc.length = q.toNat) ∧ (acc = (l8.take q.toNat).map (lastB ws))) (fun (q : Int) (B1 : Option Addr) (m1 : Nat) (d1 : Nat) (acc : List Int) => (l8.length - q).toNat) ?_ ?_
  ·
    exact ⟨0, none, 0, 0, [], ⟨(by omega), (by omega), (rfl), (rfl), (rfl)⟩, (Sub.cons rfl (Sub.cons rfl (Sub.cons rfl (Sub.cons rfl Sub.nil)))), fun _ h => h⟩
  intro q B1 m1 d1 acc ⟨hq0, hq1, hm1, haq, hacc⟩
  have hll := all_len hp8
  refine w_seq ?_
  refine w_seq ?_
  refine w_reg ?_
  refine wr_y rfl (y_move rfl) ?_
  refine wr_y rfl (y_move rfl) ?_
  refine wr_y rfl (y_len Try.underlying49 rfl) ?_
  refine wr_y rfl (y_lt rfl rfl) ?_
  refine wr_nil ?_
  refine w_if rfl (fun hc1 => ?_) (fun hc1 => ?_)
  ·
    have ht := mem_all.1 (hp8.subset (rdp_mem (l := l8) hq0 (by omega)))
    have htm := ht.2.2
    have he0 := Int.emod_nonneg ((rdp l8 q).2 + (rdl ws (rdp l8 q).1).length - 1) (show ((rdl ws (rdp l8 q).1).length : Int) ≠ 0 by omega)
    have he1 := Int.emod_lt_of_pos ((rdp l8 q).2 + (rdl ws (rdp l8 q).1).length - 1) (show (0 : Int) < (rdl ws (rdp l8 q).1).length by omega)
    refine w_skip ?_
    refine w_seq ?_
    refine w_block ?_
    refine w_seq ?_
    refine w_reg ?_
    refine wr_y rfl (y_move rfl) ?_
    refine wr_y rfl (y_move rfl) ?_
    refine wr_y rfl (y_move rfl) ?_
    refine wr_y rfl (y_index Try.underlying49 sz51 rfl rfl (rdr 1 rfl) rfl (by omega) (by omega)) ?_
    refine wr_y rfl (y_pairAt (q := 0) Try.underlying51 sz3 rfl rfl (rdr 1 rfl) (by omega) (by omega) rfl (by decide) (by decide)) ?_
    refine wr_y rfl (y_ldP1 Try.underlying3 rfl rfl (rdr 1 rfl) (by omega) (by omega)) ?_
    refine wr_y rfl (y_index1 Try.underlying30 sz22 rfl rfl (h_ws.c _) (by first | exact ht.1 | exact ht.2.1) (by first | exact ht.1 | exact ht.2.1)) ?_
    refine s_ws.elim (i := (rdp l8 q).1) (by first | exact ht.1 | exact ht.2.1) (by first | exact ht.1 | exact ht.2.1) (fun A_4 c_5 hv_6 hr_7 hb_8 mhr_7 => ?_)
    refine wr_y rfl (y_ld Try.underlying22 rfl rfl rfl (h_ws.c _) hv_6) ?_
    refine wr_y rfl (y_assign rfl) ?_
    refine wr_nil ?_
    refine w_reg ?_
    refine wr_y rfl (y_move rfl) ?_
    refine wr_y rfl (y_move rfl) ?_
    refine wr_y rfl (y_move rfl) ?_
    refine wr_y rfl (y_move rfl) ?_
    refine wr_y rfl (y_index Try.underlying49 sz51 rfl rfl (rdr 1 rfl) rfl (by omega) (by omega)) ?_
    refine wr_y rfl (y_pairAt (q := 1) Try.underlying51 sz3 rfl rfl (rdr 1 rfl) (by omega) (by omega) rfl (by decide) (by decide)) ?_
    refine wr_y rfl (y_ldP2 Try.underlying3 rfl rfl (rdr 1 rfl) (by omega) (by omega)) ?_
    refine wr_y rfl (y_move rfl) ?_
    refine wr_y rfl (y_len Try.underlying22 rfl) ?_
    refine wr_y rfl (y_addI rfl rfl (by omega)) ?_
    refine wr_y rfl (y_subI rfl rfl (by omega)) ?_
    refine wr_y rfl (y_move rfl) ?_
    refine wr_y rfl (y_len Try.underlying22 rfl) ?_
    refine wr_y rfl (y_rem rfl rfl (by omega) (by omega)) ?_
    refine wr_y rfl (y_index1 Try.underlying22 sz5 rfl rfl (hr_7.c _) (by omega) (by omega)) ?_
    refine wr_y rfl (y_ldI Try.underlying5 rfl rfl (hr_7.c _) (by omega) (by omega)) ?_
    refine wr_a rfl (a_litI .u8 [rd (rdl ws ((rdp l8 q).1)) (((((rdp l8 q).2) + (((rdl ws ((rdp l8 q).1)).length : Nat) : Int)) - 1) % (((rdl ws ((rdp l8 q).1)).length : Nat) : Int))] Try.underlying22 zs5 rfl rfl rfl) ?_
    rintro _ _ ⟨g_10, rfl, rfl⟩
    refine wr_a rfl (a_appendI 1 rfl Try.underlying22 zb5 rfl rfl rfl (rdr 0 rfl) (by omega)) ?_
    rintro _ _ ⟨A_11, c_12, rfl, rfl⟩
    refine wr_rows (R1 := [⟨5, 1, (some ⟨g_10, 0, none⟩), 1, 1, ints .u8 ([rd (rdl ws ((rdp l8 q).1)) (((((rdp l8 q).2) + (((rdl ws ((rdp l8 q).1)).length : Nat) : Int)) - 1) % (((rdl ws ((rdp l8 q).1)).length : Nat) : Int))]), false⟩, ⟨5, 1, A_11, (m1 + 1), c_12, ints .u8 (acc ++ ([rd (rdl ws ((rdp l8 q).1)) (((((rdp l8 q).2) + (((rdl ws ((rdp l8 q).1)).length : Nat) : Int)) - 1) % (((rdl ws ((rdp l8 q).1)).length : Nat) : Int))])), false⟩, ⟨51, 2, A_1, l8.length, c_2, prs l8, false⟩]) rfl ?_
    refine wr_as (v := .slice A_11 (m1 + 1) c_12) rfl ?_
    refine wr_y rfl (y_assign rfl) ?_
    refine wr_nil ?_
    refine w_reg ?_
    refine wr_y rfl (y_move rfl) ?_
    refine wr_y rfl (y_addI rfl rfl (by omega)) ?_
    refine wr_y rfl (y_assign rfl) ?_
    refine wr_nil ?_
    exact ⟨q + 1, A_11, m1 + 1, c_12, acc ++ ([rd (rdl ws ((rdp l8 q).1)) (((((rdp l8 q).2) + (((rdl ws ((rdp l8 q).1)).length : Nat) : Int)) - 1) % (((rdl ws ((rdp l8 q).1)).length : Nat) : Int))]), ⟨(by omega), (by omega), (by rw [List.length_append, hm1]; rfl), (by rw [List.length_append, haq, List.length_singleton]; omega), (by rw [take_rdp hq0 (by omega), List.map_append, hacc]; rfl)⟩, (by omega), (Sub.cons rfl (Sub.cons rfl (Sub.cons rfl (Sub.cons rfl Sub.nil)))), fun _ h => h.sel [1, 2] (by decide) rfl⟩
  ·
    refine w_exit ?_
    refine w_seq ?_
    refine w_reg ?_
    refine wr_y rfl (y_move rfl) ?_
    refine wr_y rfl (y_assign rfl) ?_
    refine wr_nil ?_
    refine w_retR (R1 := [⟨5, 1, B1, m1, d1, ints .u8 acc, false⟩]) (fun _ h => h.sel [0] (by decide) rfl) ?_
    refine ⟨_, rfl, ?_⟩
    rw [List.take_of_length_le (by omega)] at hacc
    subst hacc
    obtain rfl : m1 = l8.length := by rw [hm1, List.length_map]
    exact ⟨l8, _, _, rfl, hp8, hs8, rfl⟩

/-! whorl/whorlref23.Turn -/
set_option maxRecDepth 100000 in
set_option maxHeartbeats 1000000 in
theorem turn23_ct {w : World} {A_u : Option Addr} {n_u c_u : Nat} {u : List Int} (h_u : Rd w A_u n_u c_u 1 (ints .u8 u)) (bh_u : ByteL u) (hN : u.length ≤ 100000) :
    Ct Try.prog 15 #[.slice A_u n_u c_u] w.heap.size w [] (fun v R' => ∃ (lt : List (Int × Int)) (A : Option Addr) (c : Nat), v = .slice A lt.length c ∧ lt.Perm (tlist (bws u) (bws u).length) ∧ lt.Pairwise (ordO (bws u)) ∧ R' = [⟨5, 1, A, lt.length, c, ints .u8 (lt.map (lastB (bws u))), false⟩]) := by
  obtain rfl := h_u.lenI
  refine fn1 Try.func15 rfl rfl rfl ?_
  have m_u := h_u.max
  have hfl := facL_len u
  refine w_seq ?_
  refine w_reg ?_
  refine wr_y rfl (y_assign rfl) ?_
  refine wr_nil ?_
  refine w_seq ?_
  refine w_reg ?_
  refine wr_y rfl (y_move rfl) ?_
  refine wr_a rfl (a_callF en37 rfl (Ct.fresh (fun w hw => factors7_ct ((h_u.c _) w hw) (by omega)))) ?_
  rintro _ _ ⟨_, rfl, A_1, c_2, rfl, rfl⟩
  refine wr_y rfl (y_assign rfl) ?_
  refine wr_nil ?_
  refine w_seq ?_
  refine w_reg ?_
  refine wr_sub (R1 := [⟨22, 1, none, 0, 0, [], false⟩, ⟨3, 1, A_1, (facL (u)).length, c_2, ints .i64 (facL (u)), false⟩]) (Sub.refl _) (fun _ h => h.nil 22 1) ?_
  refine wr_y rfl (y_assign rfl) ?_
  refine wr_nil ?_
  refine w_seq ?_
  refine w_seq ?_
  refine w_reg ?_
  refine wr_y rfl (y_assign rfl) ?_
  refine wr_nil ?_
  refine w_block ?_
  refine w_loop8 (fun (k : Int) (A1 : Option Addr) (n1 : Nat) (c1 : Nat) (vals : List Value) (A0 : Option Addr) (n0 : Nat) (c0 : Nat) => [(0, .slice A0 n0 c0), (3, .slice A_1 ((facL (u)).length) c_2), (4, .slice A1 n1 c1), (5, .int .i64 k)]) (fun (k : Int) (A1 : Option Addr) (n1 : Nat) (c1 : Nat) (vals : List Value) (A0 : Option Addr) (n0 : Nat) (c0 : Nat) => [⟨22, 1, A1, n1, c1, vals, false⟩, ⟨3, 1, A_1, (facL (u)).length, c_2, ints .i64 (facL (u)), false⟩]) (fun (k : Int) (A1 : Option Addr) (n1 : Nat) (c1 : Nat) (vals : List Value) (A0 : Option Addr) (n0 : Nat) (c0 : Nat) => (0 ≤ k) ∧ (k ≤ (facL u).length) ∧ (n1 = k.toNat) ∧ (SlW .u8 w vals (wordsK u (facL u) k)) ∧ (Rd w A0 n0 c0 1 (ints .u8 (u.drop (ps (facL u) k).toNat)))) (fun (k : Int) (A1 : Option Addr) (n1 : Nat) (c1 : Nat) (vals : List Value) (A0 : Option Addr) (n0 : Nat) (c0 : Nat) => ((facL u).length - k).toNat) ?_ ?_
  ·
    exact ⟨0, none, 0, 0, [], A_u, u.length, c_u, ⟨(by omega), (by omega), (rfl), (slw_none _ _), (h_u)⟩, (Sub.cons rfl (Sub.cons rfl (Sub.cons rfl (Sub.cons rfl Sub.nil)))), fun _ h => h⟩
  intro k A1 n1 c1 vals A0 n0 c0 ⟨hk0, hk1, hn1, hsl, hrd⟩
  have hn0 := hrd.lenI
  have hm0 := hrd.max
  rw [List.length_drop] at hn0
  refine w_seq ?_
  refine w_seq ?_
  refine w_reg ?_
  refine wr_y rfl (y_move rfl) ?_
  refine wr_y rfl (y_move rfl) ?_
  refine wr_y rfl (y_len Try.underlying35 rfl) ?_
  refine wr_y rfl (y_lt rfl rfl) ?_
  refine wr_nil ?_
  refine w_if rfl (fun hc1 => ?_) (fun hc1 => ?_)
  ·
    have hps := ps_succ (L := facL u) hk0 (by omega)
    have hpl := ps_le u (k + 1)
    have hnn := ps_nonneg (facL_pos u) k
    have hrp := facL_pos u _ (rd_mem (L := facL u) hk0 (by omega))
    have hsl2 : SlW .u8 w (vals ++ [.slice A0 (rd (facL u) k).toNat c0]) (wordsK u (facL u) (k + 1)) := by
      rw [wordsK_succ hk0]
      exact hsl.snoc (hrd.toI (by omega)) (fun x hx => wf_byte (bh_u x (List.mem_of_mem_drop (List.mem_of_mem_take hx)))) (by rw [List.length_take, List.length_drop]; omega)
    refine w_skip ?_
    refine w_seq ?_
    refine w_block ?_
    refine w_seq ?_
    refine w_reg ?_
    refine wr_y rfl (y_move rfl) ?_
    refine wr_y rfl (y_move rfl) ?_
    refine wr_y rfl (y_move rfl) ?_
    refine wr_y rfl (y_move rfl) ?_
    refine wr_y rfl (y_index1 Try.underlying35 sz3 rfl rfl (rdr 1 rfl) (by omega) (by omega)) ?_
    refine wr_y rfl (y_ldI Try.underlying3 rfl rfl (rdr 1 rfl) (by omega) (by omega)) ?_
    refine wr_y rfl (y_sliceTo Try.underlying22 sz5 rfl rfl (hrd.c _) (by omega) (by omega)) ?_
    refine wr_a rfl (a_lit [.slice A0 ((rd (facL (u)) k).toNat) c0] Try.underlying30 zs22 rfl rfl rfl rfl) ?_
    rintro _ _ ⟨g_5, rfl, rfl⟩
    refine wr_a rfl (a_append 1 rfl rfl Try.underlying30 zb22 rfl rfl rfl rfl rfl (rdr 0 rfl) (by simp [Value.oneCell']) (by dsimp only; omega)) ?_
    rintro _ _ ⟨A_6, c_7, rfl, rfl⟩
    refine wr_rows (R1 := [⟨22, 1, (some ⟨g_5, 0, none⟩), 1, 1, [.slice A0 ((rd (facL (u)) k).toNat) c0], false⟩, ⟨22, 1, A_6, (n1 + 1), c_7, vals ++ ([.slice A0 ((rd (facL (u)) k).toNat) c0]), false⟩, ⟨3, 1, A_1, (facL (u)).length, c_2, ints .i64 (facL (u)), false⟩]) rfl ?_
    refine wr_as (v := .slice A_6 (n1 + 1) c_7) rfl ?_
    refine wr_y rfl (y_assign rfl) ?_
    refine wr_nil ?_
    refine w_reg ?_
    refine wr_y rfl (y_move rfl) ?_
    refine wr_y rfl (y_move rfl) ?_
    refine wr_y rfl (y_move rfl) ?_
    refine wr_y rfl (y_index1 Try.underlying35 sz3 rfl rfl (rdr 2 rfl) (by omega) (by omega)) ?_
    refine wr_y rfl (y_ldI Try.underlying3 rfl rfl (rdr 2 rfl) (by omega) (by omega)) ?_
    refine wr_y rfl (y_sliceFrom Try.underlying22 sz5 rfl rfl (by omega) (by omega)) ?_
    refine wr_y rfl (y_assign rfl) ?_
    refine wr_nil ?_
    refine w_reg ?_
    refine wr_y rfl (y_move rfl) ?_
    refine wr_y rfl (y_addI rfl rfl (by omega)) ?_
    refine wr_y rfl (y_assign rfl) ?_
    refine wr_nil ?_
    exact ⟨k + 1, A_6, n1 + 1, c_7, vals ++ ([.slice A0 ((rd (facL (u)) k).toNat) c0]), cutA A0 (rd (facL (u)) k).toNat c0 1, n0 - (rd (facL (u)) k).toNat, c0 - (rd (facL (u)) k).toNat, ⟨(by omega), (by omega), (by omega), (hsl2), (by
        have h := hrd.fromI (l := (rd (facL u) k).toNat) (by omega)
        rw [List.drop_drop] at h
        rw [hps, show (ps (facL u) k + rd (facL u) k).toNat = (ps (facL u) k).toNat + (rd (facL u) k).toNat by omega]
        exact h)⟩, (by omega), (Sub.cons rfl (Sub.cons rfl (Sub.cons rfl (Sub.cons rfl Sub.nil)))), fun _ h => h.sel [1, 2] (by decide) rfl⟩
  ·
    refine w_exit ?_
    refine w_seq ?_
    refine w_reg ?_
    refine wr_y rfl (y_move rfl) ?_
    refine wr_a rfl (a_callF en38 rfl (Ct.fresh (fun w hw => last23_ct ((rdr 0 rfl) w hw) (hsl.c hw) (by rw [wk_all (show k = (facL u).length by omega), bws_flat, bws_len]; omega)))) ?_
    rintro _ _ ⟨_, rfl, l2, A_8, c_9, rfl, hpt_l2, hst_l2, rfl⟩
    refine wr_y rfl (y_assign rfl) ?_
    refine wr_nil ?_
    refine w_retR (R1 := [⟨5, 1, A_8, l2.length, c_9, ints .u8 (l2.map (lastB (wordsK u (facL u) k))), false⟩]) (fun _ h => h.sel [0] (by decide) rfl) ?_
    refine ⟨_, rfl, ?_⟩
    have e : k = (facL u).length := by omega
    rw [wk_all e] at hpt_l2 hst_l2 ⊢
    exact ⟨l2, _, _, rfl, hpt_l2, hst_l2, rfl⟩

/-! whorl/whorllaw23.known -/
set_option maxRecDepth 100000 in
theorem known23_ct {w : World}  :
    Ct Try.prog 16 #[] w.heap.size w [] (fun v R' => v = .bool true) := by
  refine fn1 Try.func16 rfl rfl rfl ?_
  refine w_seq ?_
  refine w_reg ?_
  refine wr_y rfl (y_assign rfl) ?_
  refine wr_nil ?_
  refine w_seq ?_
  refine w_reg ?_
  refine wr_a rfl (a_litI .u8 [98, 97, 110, 97, 110, 97] Try.underlying22 zs5 rfl rfl rfl) ?_
  rintro _ _ ⟨g_2, rfl, rfl⟩
  refine wr_a rfl (a_mark 0 rfl rfl Try.underlying22 Try.underlying5 rfl rfl) ?_
  rintro _ _ ⟨rfl, rfl⟩
  refine wr_rows (R1 := [⟨5, 1, (some ⟨g_2, 0, none⟩), 6, 6, ints .u8 ([98, 97, 110, 97, 110, 97]), true⟩]) rfl ?_
  refine wr_a rfl (a_callF en14 rfl (Ct.fresh (fun w hw => bijTurn_ct ((rdr 0 rfl) w hw) (by show ByteL [98, 97, 110, 97, 110, 97]; unfold ByteL; decide) (by show [98, 97, 110, 97, 110, 97].length ≤ 100000; decide)))) ?_
  rintro _ _ ⟨_, rfl, l1, A_3, c_4, rfl, hpt_l1, hst_l1, rfl⟩
  refine wr_y rfl (y_move rfl) ?_
  refine wr_y rfl (y_extract rfl rfl) ?_
  refine wr_y rfl (y_extract rfl rfl) ?_
  refine wr_y rfl (y_assign rfl) ?_
  refine wr_y rfl (y_assign rfl) ?_
  refine wr_nil ?_
  refine w_seq ?_
  refine w_reg ?_
  refine wr_y rfl (y_move rfl) ?_
  refine wr_y rfl (Yl.t (y_eq rfl rfl) (rfl)) ?_
  refine wr_y rfl (y_move rfl) ?_
  refine wr_yes rfl rfl ?_
  refine wr_y rfl (y_move rfl) ?_
  refine wr_yes rfl rfl ?_
  refine wr_y rfl (y_toStr Try.underlying22 Try.underlying5 Try.underlying9 rfl (rdr 0 rfl)) ?_
  refine wr_yes rfl rfl ?_
  refine wr_y rfl (Yl.t (y_eqL (q := [97, 110, 110, 98, 97, 97]) rfl rfl (lastB_bytes hpt_l1 (by rw [bws_flat]; unfold ByteL; decide)) (by unfold ByteL; decide)) (by rw [the_order hpt_l1 hst_l1 (m := [(3, 0), (1, 0), (2, 0), (0, 0), (1, 1), (2, 1)]) (by decide +kernel) (by decide +kernel)]; decide +kernel)) ?_
  refine wr_y rfl (y_pickT rfl rfl) ?_
  refine wr_y rfl (y_assign rfl) ?_
  refine wr_nil ?_
  refine w_retR (R1 := []) (fun _ h => h.sel [] (by decide) rfl) ?_
  refine ⟨_, rfl, ?_⟩
  rfl

/-! whorl/whorllaw23.BijTurns -/
set_option maxRecDepth 100000 in
theorem bijTurns_ct {w : World} {A_u : Option Addr} {n_u c_u : Nat} {u : List Int} (h_u : Rd w A_u n_u c_u 1 (ints .u8 u)) (bh_u : ByteL u) :
    Ct Try.prog 3 #[.slice A_u n_u c_u] w.heap.size w [] (fun v R' => v = .bool true) := by
  obtain rfl := h_u.lenI
  refine fn1 Try.func3 rfl rfl rfl ?_
  have m_u := h_u.max
  refine w_seq ?_
  refine w_reg ?_
  refine wr_y rfl (y_assign rfl) ?_
  refine wr_nil ?_
  refine w_seq ?_
  refine w_seq ?_
  refine w_reg ?_
  refine wr_y rfl (y_move rfl) ?_
  refine wr_y rfl (y_len Try.underlying22 rfl) ?_
  refine wr_y rfl (y_gt rfl rfl) ?_
  refine wr_nil ?_
  refine w_if rfl (fun hc1 => ?_) (fun hc1 => ?_)
  ·
    refine w_seq ?_
    refine w_reg ?_
    refine wr_y rfl (y_assign rfl) ?_
    refine wr_nil ?_
    refine w_ret ?_
    refine ⟨_, rfl, ?_⟩
    rfl
  ·
    refine w_skip ?_
    refine w_seq ?_
    refine w_reg ?_
    refine wr_y rfl (y_move rfl) ?_
    refine wr_a rfl (a_callF en14 rfl (Ct.fresh (fun w hw => bijTurn_ct ((h_u.c _) w hw) (by first | assumption | omega | decide) (by omega)))) ?_
    rintro _ _ ⟨_, rfl, l1, A_1, c_2, rfl, hpt_l1, hst_l1, rfl⟩
    refine wr_y rfl (y_move rfl) ?_
    refine wr_y rfl (y_extract rfl rfl) ?_
    refine wr_y rfl (y_extract rfl rfl) ?_
    refine wr_y rfl (y_assign rfl) ?_
    refine wr_y rfl (y_assign rfl) ?_
    refine wr_nil ?_
    refine w_seq ?_
    refine w_regd mixed ?_
    refine wd_y 0 rfl (by kernel_rfl) rfl (y_move rfl) ?_
    refine wd_y 1 rfl (by kernel_rfl) rfl (Yl.t (y_eq rfl rfl) (rfl)) ?_
    refine wd_y 2 rfl (by kernel_rfl) rfl (y_move rfl) ?_
    refine wd_yg 3 rfl (by kernel_rfl) rfl rfl rfl (y_move rfl) ?_
    refine wd_yg 4 rfl (by kernel_rfl) rfl rfl rfl (y_toStr Try.underlying22 Try.underlying5 Try.underlying9 rfl (rdr 0 rfl)) ?_
    refine wd_yg 5 rfl (by kernel_rfl) rfl rfl rfl (y_move rfl) ?_
    refine wd_ag 6 rfl (by kernel_rfl) rfl rfl rfl (a_callF en15 rfl (Ct.fresh (fun w hw => turn23_ct ((h_u.c _) w hw) (by first | assumption | omega | decide) (by omega)))) ?_
    rintro _ _ ⟨_, rfl, l2, A_4, c_5, rfl, hpt_l2, hst_l2, rfl⟩
    refine ⟨.inr fun _ h => h.right (R' := [_]), ?_⟩
    refine wd_yg 7 rfl (by kernel_rfl) rfl rfl rfl (y_toStr Try.underlying22 Try.underlying5 Try.underlying9 rfl (rdr 0 rfl)) ?_
    refine wd_yg 8 rfl (by kernel_rfl) rfl rfl rfl (Yl.t (y_eqL rfl rfl (lastB_bytes hpt_l1 (by rw [bws_flat]; exact bh_u)) (lastB_bytes hpt_l2 (by rw [bws_flat]; exact bh_u))) (by rw [one_order ordO_asymm (hpt_l1.trans hpt_l2.symm) hst_l1 hst_l2])) ?_
    refine wd_y 9 rfl (by kernel_rfl) rfl (y_pickT rfl rfl) ?_
    refine wd_y 10 rfl (by kernel_rfl) rfl (y_move rfl) ?_
    refine wd_ag 11 rfl (by kernel_rfl) rfl rfl rfl (a_callF en16 rfl (Ct.quiet (fun w hw => known23_ct))) ?_
    rintro _ _ ⟨rfl, rfl⟩
    refine ⟨.inr fun _ h => h, ?_⟩
    refine wd_y 12 rfl (by kernel_rfl) rfl (y_pickT rfl rfl) ?_
    refine wd_y 13 rfl (by kernel_rfl) rfl (y_assign rfl) ?_
    refine wd_nil (by kernel_rfl) ?_
    refine w_retR (R1 := []) (fun _ h => h.sel [] (by decide) rfl) ?_
    refine ⟨_, rfl, ?_⟩
    rfl

/-! whorl/whorllaw23.BijLetters -/
set_option maxRecDepth 100000 in
theorem bijLetters_ct {w : World} {A_u : Option Addr} {n_u c_u : Nat} {u : List Int} (h_u : Rd w A_u n_u c_u 1 (ints .u8 u)) (bh_u : ByteL u) :
    Ct Try.prog 4 #[.slice A_u n_u c_u] w.heap.size w [] (fun v R' => v = .bool true) := by
  obtain rfl := h_u.lenI
  refine fn1 Try.func4 rfl rfl rfl ?_
  have m_u := h_u.max
  refine w_seq ?_
  refine w_reg ?_
  refine wr_y rfl (y_assign rfl) ?_
  refine wr_nil ?_
  refine w_seq ?_
  refine w_seq ?_
  refine w_reg ?_
  refine wr_y rfl (y_move rfl) ?_
  refine wr_y rfl (y_len Try.underlying22 rfl) ?_
  refine wr_y rfl (y_gt rfl rfl) ?_
  refine wr_nil ?_
  refine w_if rfl (fun hc1 => ?_) (fun hc1 => ?_)
  ·
    refine w_seq ?_
    refine w_reg ?_
    refine wr_y rfl (y_assign rfl) ?_
    refine wr_nil ?_
    refine w_ret ?_
    refine ⟨_, rfl, ?_⟩
    rfl
  ·
    refine w_skip ?_
    refine w_seq ?_
    refine w_reg ?_
    refine wr_y rfl (y_move rfl) ?_
    refine wr_a rfl (a_callF en14 rfl (Ct.fresh (fun w hw => bijTurn_ct ((h_u.c _) w hw) (by first | assumption | omega | decide) (by omega)))) ?_
    rintro _ _ ⟨_, rfl, l1, A_1, c_2, rfl, hpt_l1, hst_l1, rfl⟩
    refine wr_y rfl (y_move rfl) ?_
    refine wr_y rfl (y_extract rfl rfl) ?_
    refine wr_y rfl (y_extract rfl rfl) ?_
    refine wr_y rfl (y_assign rfl) ?_
    refine wr_y rfl (y_assign rfl) ?_
    refine wr_nil ?_
    refine w_seq ?_
    refine w_seq ?_
    refine w_reg ?_
    refine wr_y rfl (y_move rfl) ?_
    refine wr_y rfl (Yl.f (y_ne rfl rfl) (by omega)) ?_
    refine wr_y rfl (y_move rfl) ?_
    refine wr_yes rfl rfl ?_
    refine wr_y rfl (y_move rfl) ?_
    refine wr_yes rfl rfl ?_
    refine wr_y rfl (y_len Try.underlying22 rfl) ?_
    refine wr_yes rfl rfl ?_
    refine wr_y rfl (y_move rfl) ?_
    refine wr_yes rfl rfl ?_
    refine wr_y rfl (y_len Try.underlying22 rfl) ?_
    refine wr_yes rfl rfl ?_
    refine wr_y rfl (Yl.f (y_ne rfl rfl) (by have := bws_all hpt_l1; omega)) ?_
    refine wr_y rfl (y_pickF rfl rfl) ?_
    refine wr_nil ?_
    refine w_false rfl ?_
    refine w_skip ?_
    refine w_seq ?_
    refine w_reg ?_
    refine wr_a rfl (a_alloc (sz := 256) zz29 rfl) ?_
    rintro _ _ ⟨g_4, rfl, rfl⟩
    refine wr_rows (R1 := [⟨29, 256, (some ⟨g_4, 0, none⟩), 1, 1, ints .i64 (List.replicate 256 (0 : Int)), false⟩, ⟨5, 1, A_1, l1.length, c_2, ints .u8 (l1.map (lastB (bws u))), false⟩]) rfl ?_
    refine wr_nil ?_
    refine w_seq ?_
    refine w_seq ?_
    refine w_reg ?_
    refine wr_y rfl (y_assign rfl) ?_
    refine wr_nil ?_
    refine w_block ?_
    refine w_loop2 (fun (i : Int) (V : List Int) => [(0, .slice A_u u.length c_u), (3, .slice A_1 l1.length c_2), (5, .pointer (some ⟨g_4, 0, none⟩)), (6, .int .i64 i)]) (fun (i : Int) (V : List Int) => [⟨29, 256, (some ⟨g_4, 0, none⟩), 1, 1, ints .i64 V, false⟩, ⟨5, 1, A_1, l1.length, c_2, ints .u8 (l1.map (lastB (bws u))), false⟩]) (fun (i : Int) (V : List Int) => (0 ≤ i) ∧ (i ≤ u.length) ∧ (V.length = 256) ∧ (CntI u (l1.map (lastB (bws u))) i V)) (fun (i : Int) (V : List Int) => (u.length - i).toNat) ?_ ?_
    ·
      exact ⟨0, List.replicate 256 (0 : Int), ⟨(by omega), (by omega), (rfl), (cntI_zero)⟩, (Sub.cons rfl (Sub.cons rfl (Sub.cons rfl (Sub.cons rfl Sub.nil)))), fun _ h => h⟩
    intro i V ⟨hi0, hi1, hVl, hV⟩
    have hll := bws_all hpt_l1
    have hlm : (l1.map (lastB (bws u))).Perm u := by have := last_perm hpt_l1; rwa [bws_flat] at this
    have hlb : ByteL (l1.map (lastB (bws u))) := lastB_bytes hpt_l1 (by rw [bws_flat]; exact bh_u)
    refine w_seq ?_
    refine w_seq ?_
    refine w_reg ?_
    refine wr_y rfl (y_move rfl) ?_
    refine wr_y rfl (y_move rfl) ?_
    refine wr_y rfl (y_len Try.underlying22 rfl) ?_
    refine wr_y rfl (y_lt rfl rfl) ?_
    refine wr_nil ?_
    refine w_if rfl (fun hc2 => ?_) (fun hc2 => ?_)
    ·
      have hb1 := bh_u.rd i
      have hb2 := hlb.rd i
      have hv1 := hV.bound (by omega) hb1.1 hb1.2
      have hv2 : -2000 ≤ rd (upd V (rd u i) (rd V (rd u i) + 1)) (rd (l1.map (lastB (bws u))) i) ∧ rd (upd V (rd u i) (rd V (rd u i) + 1)) (rd (l1.map (lastB (bws u))) i) ≤ 2000 := by rw [rd_upd hb1.1 hb2.1 (by omega)]; have := hV.bound (by omega) hb2.1 hb2.2; split <;> omega
      have hvl2 : (upd V (rd u i) (rd V (rd u i) + 1)).length = 256 := by rw [upd_length]; exact hVl
      refine w_skip ?_
      refine w_seq ?_
      refine w_block ?_
      refine w_seq ?_
      refine w_reg ?_
      refine wr_y rfl (y_move rfl) ?_
      refine wr_y rfl (y_move rfl) ?_
      refine wr_y rfl (y_index1 Try.underlying22 sz5 rfl rfl (h_u.c _) (by omega) (by omega)) ?_
      refine wr_y rfl (y_ldI Try.underlying5 rfl rfl (h_u.c _) (by omega) (by omega)) ?_
      refine wr_y rfl (y_indexL Try.underlying29 sz3 rfl rfl (rdr 0 rfl) (by omega) (by omega) (by omega)) ?_
      refine wr_y rfl (y_ldL Try.underlying3 rfl rfl (rdr 0 rfl) (by omega) (by omega)) ?_
      refine wr_y rfl (y_addI rfl rfl (by omega)) ?_
      refine wr_y rfl (y_indexL Try.underlying29 sz3 rfl rfl (rdr 0 rfl) (by omega) (by omega) (by omega)) ?_
      refine wr_n (a_storeL 0 rfl sz3 rfl rfl (by omega) (by omega)) ?_
      rintro _ _ rfl
      refine wr_rows (R1 := [⟨29, 256, (some ⟨g_4, 0, none⟩), 1, 1, ints .i64 (upd V (rd u i) ((rd V (rd u i)) + 1)), false⟩, ⟨5, 1, A_1, l1.length, c_2, ints .u8 (l1.map (lastB (bws u))), false⟩]) rfl ?_
      refine wr_nil ?_
      refine w_reg ?_
      refine wr_y rfl (y_move rfl) ?_
      refine wr_y rfl (y_move rfl) ?_
      refine wr_y rfl (y_index1 Try.underlying22 sz5 rfl rfl (rdr 1 rfl) (by omega) (by omega)) ?_
      refine wr_y rfl (y_ldI Try.underlying5 rfl rfl (rdr 1 rfl) (by omega) (by omega)) ?_
      refine wr_y rfl (y_indexL Try.underlying29 sz3 rfl rfl (rdr 0 rfl) (by omega) (by omega) (by omega)) ?_
      refine wr_y rfl (y_ldL Try.underlying3 rfl rfl (rdr 0 rfl) (by omega) (by omega)) ?_
      refine wr_y rfl (y_subI rfl rfl (by omega)) ?_
      refine wr_y rfl (y_indexL Try.underlying29 sz3 rfl rfl (rdr 0 rfl) (by omega) (by omega) (by omega)) ?_
      refine wr_n (a_storeL 0 rfl sz3 rfl rfl (by omega) (by omega)) ?_
      rintro _ _ rfl
      refine wr_rows (R1 := [⟨29, 256, (some ⟨g_4, 0, none⟩), 1, 1, ints .i64 (upd (upd V (rd u i) ((rd V (rd u i)) + 1)) (rd (l1.map (lastB (bws u))) i) ((rd (upd V (rd u i) ((rd V (rd u i)) + 1)) (rd (l1.map (lastB (bws u))) i)) - 1)), false⟩, ⟨5, 1, A_1, l1.length, c_2, ints .u8 (l1.map (lastB (bws u))), false⟩]) rfl ?_
      refine wr_nil ?_
      refine w_reg ?_
      refine wr_y rfl (y_move rfl) ?_
      refine wr_y rfl (y_addI rfl rfl (by omega)) ?_
      refine wr_y rfl (y_assign rfl) ?_
      refine wr_nil ?_
      exact ⟨i + 1, upd (upd V (rd u i) ((rd V (rd u i)) + 1)) (rd (l1.map (lastB (bws u))) i) ((rd (upd V (rd u i) ((rd V (rd u i)) + 1)) (rd (l1.map (lastB (bws u))) i)) - 1), ⟨(by omega), (by omega), (by rw [upd_length, upd_length]; exact hVl), (cntI_step hi0 (by omega) (by rw [List.length_map]; omega) hVl hb1 hb2 hV)⟩, (by omega), (Sub.cons rfl (Sub.cons rfl (Sub.cons rfl (Sub.cons rfl Sub.nil)))), fun _ h => h⟩
    ·
      refine w_exit ?_
      refine w_seq ?_
      refine w_seq ?_
      refine w_reg ?_
      refine wr_y rfl (y_assign rfl) ?_
      refine wr_nil ?_
      refine w_block ?_
      refine w_loop1 (fun (j : Int) => [(0, .slice A_u u.length c_u), (3, .slice A_1 l1.length c_2), (5, .pointer (some ⟨g_4, 0, none⟩)), (7, .int .i64 j)]) (fun (j : Int) => [⟨29, 256, (some ⟨g_4, 0, none⟩), 1, 1, ints .i64 V, false⟩, ⟨5, 1, A_1, l1.length, c_2, ints .u8 (l1.map (lastB (bws u))), false⟩]) (fun (j : Int) => (0 ≤ j) ∧ (j ≤ 256)) (fun (j : Int) => (256 - j).toNat) ?_ ?_
      ·
        exact ⟨0, ⟨(by omega), (by omega)⟩, (Sub.cons rfl (Sub.cons rfl (Sub.cons rfl (Sub.cons rfl Sub.nil)))), fun _ h => h⟩
      intro j ⟨hj0, hj1⟩
      refine w_seq ?_
      refine w_seq ?_
      refine w_reg ?_
      refine wr_y rfl (y_move rfl) ?_
      refine wr_y rfl (y_lt rfl rfl) ?_
      refine wr_nil ?_
      refine w_if rfl (fun hc3 => ?_) (fun hc3 => ?_)
      ·
        refine w_skip ?_
        refine w_seq ?_
        refine w_block ?_
        refine w_seq ?_
        refine w_reg ?_
        refine wr_y rfl (y_move rfl) ?_
        refine wr_y rfl (y_indexL Try.underlying29 sz3 rfl rfl (rdr 0 rfl) (by omega) (by omega) (by omega)) ?_
        refine wr_y rfl (y_ldL Try.underlying3 rfl rfl (rdr 0 rfl) (by omega) (by omega)) ?_
        refine wr_y rfl (Yl.f (y_ne rfl rfl) (by have := cntI_done hlm (by omega) hV (j := j) (by omega) (by omega); omega)) ?_
        refine wr_nil ?_
        refine w_false rfl ?_
        refine w_skip ?_
        refine w_reg ?_
        refine wr_y rfl (y_move rfl) ?_
        refine wr_y rfl (y_addI rfl rfl (by omega)) ?_
        refine wr_y rfl (y_assign rfl) ?_
        refine wr_nil ?_
        exact ⟨j + 1, ⟨(by omega), (by omega)⟩, (by omega), (Sub.cons rfl (Sub.cons rfl (Sub.cons rfl (Sub.cons rfl Sub.nil)))), fun _ h => h⟩
      ·
        refine w_exit ?_
        refine w_join0 [(2, .bool true)] [⟨29, 256, (some ⟨g_4, 0, none⟩), 1, 1, ints .i64 V, false⟩, ⟨5, 1, A_1, l1.length, c_2, ints .u8 (l1.map (lastB (bws u))), false⟩] ?_ ?_
        ·
          refine w_regd mixed ?_
          refine wd_y 0 rfl (by kernel_rfl) rfl (y_move rfl) ?_
          refine wd_a 1 rfl (by kernel_rfl) rfl (a_callF en17 rfl (Ct.quiet (fun w hw => is7_ct ((h_u.c _) w hw)))) ?_
          rintro _ _ ⟨rfl, rfl⟩
          refine ⟨.inr fun _ h => h, ?_⟩
          refine wd_y 2 rfl (by kernel_rfl) rfl (y_notD rfl) ?_
          refine wd_y 3 rfl (by kernel_rfl) rfl (y_move rfl) ?_
          refine wd_case 58 rfl (fun hc4 => ?_) (fun hc4 => ?_)
          ·
            refine wd_no 4 rfl (by kernel_rfl) rfl rfl rfl rfl ?_
            refine wd_no 5 rfl (by kernel_rfl) rfl rfl rfl rfl ?_
            refine wd_no 6 rfl (by kernel_rfl) rfl rfl rfl rfl ?_
            refine wd_y 7 rfl (by kernel_rfl) rfl (y_pickT rfl rfl) ?_
            refine wd_y 8 rfl (by kernel_rfl) rfl (y_move rfl) ?_
            refine wd_no 9 rfl (by kernel_rfl) rfl rfl rfl rfl ?_
            refine wd_no 10 rfl (by kernel_rfl) rfl rfl rfl rfl ?_
            refine wd_no 11 rfl (by kernel_rfl) rfl rfl rfl rfl ?_
            refine wd_no 12 rfl (by kernel_rfl) rfl rfl rfl rfl ?_
            refine wd_no 13 rfl (by kernel_rfl) rfl rfl rfl rfl ?_
            refine wd_no 14 rfl (by kernel_rfl) rfl rfl rfl rfl ?_
            refine wd_no 15 rfl (by kernel_rfl) rfl rfl rfl rfl ?_
            refine wd_no 16 rfl (by kernel_rfl) rfl rfl rfl rfl ?_
            refine wd_no 17 rfl (by kernel_rfl) rfl rfl rfl rfl ?_
            refine wd_no 18 rfl (by kernel_rfl) rfl rfl rfl rfl ?_
            refine wd_y 19 rfl (by kernel_rfl) rfl (y_pickT rfl rfl) ?_
            refine wd_y 20 rfl (by kernel_rfl) rfl (y_move rfl) ?_
            refine wd_ag 21 rfl (by kernel_rfl) rfl rfl rfl (a_callF en16 rfl (Ct.quiet (fun w hw => known23_ct))) ?_
            rintro _ _ ⟨rfl, rfl⟩
            refine ⟨.inr fun _ h => h, ?_⟩
            refine wd_y 22 rfl (by kernel_rfl) rfl (y_pickT rfl rfl) ?_
            refine wd_y 23 rfl (by kernel_rfl) rfl (y_assign rfl) ?_
            refine wd_nil (by kernel_rfl) ?_
            exact ⟨(Sub.cons rfl Sub.nil), fun _ h => h⟩
          ·
            refine wd_yg 4 rfl (by kernel_rfl) rfl rfl rfl (y_move rfl) ?_
            refine wd_yg 5 rfl (by kernel_rfl) rfl rfl rfl (y_len Try.underlying22 rfl) ?_
            refine wd_yg 6 rfl (by kernel_rfl) rfl rfl rfl (Yl.f (y_lt rfl rfl) (by have := ((LynB_iff u).1 (Decidable.not_not.1 ‹¬ ¬ (LynB u = true)›)).1; omega)) ?_
            refine wd_y 7 rfl (by kernel_rfl) rfl (y_pickF rfl rfl) ?_
            refine wd_y 8 rfl (by kernel_rfl) rfl (y_move rfl) ?_
            refine wd_yg 9 rfl (by kernel_rfl) rfl rfl rfl (y_move rfl) ?_
            refine wd_yg 10 rfl (by kernel_rfl) rfl rfl rfl (y_index1 Try.underlying22 sz5 rfl rfl (rdr 1 rfl) (by have := ((LynB_iff u).1 (Decidable.not_not.1 ‹¬ ¬ (LynB u = true)›)).1; omega) (by have := ((LynB_iff u).1 (Decidable.not_not.1 ‹¬ ¬ (LynB u = true)›)).1; omega)) ?_
            refine wd_yg 11 rfl (by kernel_rfl) rfl rfl rfl (y_ldI Try.underlying5 rfl rfl (rdr 1 rfl) (by have := ((LynB_iff u).1 (Decidable.not_not.1 ‹¬ ¬ (LynB u = true)›)).1; omega) (by have := ((LynB_iff u).1 (Decidable.not_not.1 ‹¬ ¬ (LynB u = true)›)).1; omega)) ?_
            refine wd_yg 12 rfl (by kernel_rfl) rfl rfl rfl (y_move rfl) ?_
            refine wd_yg 13 rfl (by kernel_rfl) rfl rfl rfl (y_move rfl) ?_
            refine wd_yg 14 rfl (by kernel_rfl) rfl rfl rfl (y_len Try.underlying22 rfl) ?_
            refine wd_yg 15 rfl (by kernel_rfl) rfl rfl rfl (y_subI rfl rfl (by omega)) ?_
            refine wd_yg 16 rfl (by kernel_rfl) rfl rfl rfl (y_index1 Try.underlying22 sz5 rfl rfl (h_u.c _) (by have := ((LynB_iff u).1 (Decidable.not_not.1 ‹¬ ¬ (LynB u = true)›)).1; omega) (by have := ((LynB_iff u).1 (Decidable.not_not.1 ‹¬ ¬ (LynB u = true)›)).1; omega)) ?_
            refine wd_yg 17 rfl (by kernel_rfl) rfl rfl rfl (y_ldI Try.underlying5 rfl rfl (h_u.c _) (by have := ((LynB_iff u).1 (Decidable.not_not.1 ‹¬ ¬ (LynB u = true)›)).1; omega) (by have := ((LynB_iff u).1 (Decidable.not_not.1 ‹¬ ¬ (LynB u = true)›)).1; omega)) ?_
            refine wd_yg 18 rfl (by kernel_rfl) rfl rfl rfl (Yl.t (y_eq rfl rfl) (by have h := (lyn_first (Decidable.not_not.1 ‹¬ ¬ (LynB u = true)›) hpt_l1 hst_l1); rw [rd_mapP (by omega) (by have := h.1; omega), h.2])) ?_
            refine wd_y 19 rfl (by kernel_rfl) rfl (y_pickF rfl rfl) ?_
            refine wd_y 20 rfl (by kernel_rfl) rfl (y_move rfl) ?_
            refine wd_ag 21 rfl (by kernel_rfl) rfl rfl rfl (a_callF en16 rfl (Ct.quiet (fun w hw => known23_ct))) ?_
            rintro _ _ ⟨rfl, rfl⟩
            refine ⟨.inr fun _ h => h, ?_⟩
            refine wd_y 22 rfl (by kernel_rfl) rfl (y_pickT rfl rfl) ?_
            refine wd_y 23 rfl (by kernel_rfl) rfl (y_assign rfl) ?_
            refine wd_nil (by kernel_rfl) ?_
            exact ⟨(Sub.cons rfl Sub.nil), fun _ h => h⟩
        refine w_retR (R1 := []) (fun _ h => h.sel [] (by decide) rfl) ?_
        refine ⟨_, rfl, ?_⟩
        rfl

end Go.Proofs.Ytdfcnalkdlifiaa
