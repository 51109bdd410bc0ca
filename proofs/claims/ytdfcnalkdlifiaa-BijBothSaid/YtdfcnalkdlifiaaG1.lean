/- Walks of Go functions, printed by a program of our own. -/
import Derived.Test.YtdfcnalkdlifiaaT
import Derived.Test.YtdfcnalkdlifiaaQ15
namespace Go.Proofs.Ytdfcnalkdlifiaa
open Go Go.Eng Go.Pure
set_option linter.unusedVariables false
/-! whorl/bucket.Counts -/
set_option maxRecDepth 100000 in
theorem countsOk_ct {w : World} {A_ks : Option Addr} {n_ks c_ks : Nat} {ks : List Int} {k : Int} (h_ks : Rd w A_ks n_ks c_ks 1 (ints .i64 ks)) (hok : (0 ≤ k ∧ k ≤ 1048576) ∧ ∀ x ∈ ks, 0 ≤ x ∧ x < k) :
    Ct Try.prog 95 #[.slice A_ks n_ks c_ks, .int .i64 k] w.heap.size w [] (fun v R' => ∃ A c, v = .tuple #[.slice A k.toNat c, .bool true] ∧ R' = [⟨3, 1, A, k.toNat, c, ints .i64 (cntV ks k), false⟩]) := by
  obtain rfl := h_ks.lenI
  refine fn2 Try.func95 rfl rfl rfl ?_
  have m_ks := h_ks.max
  have hk := hok.1
  refine w_seq ?_
  refine w_reg ?_
  refine wr_y rfl (y_assign rfl) ?_
  refine wr_y rfl (y_assign rfl) ?_
  refine wr_nil ?_
  refine w_seq ?_
  refine w_seq ?_
  refine w_reg ?_
  refine wr_y rfl (y_move rfl) ?_
  refine wr_y rfl (y_lt rfl rfl) ?_
  refine wr_y rfl (y_move rfl) ?_
  refine wr_mid 3 [(0, .slice A_ks ks.length c_ks), (1, .int .i64 k), (14, .bool (decide ((k < 0) ∨ (1048576 < k))))] [] ?_ ?_
  ·
    refine wr_case 11 rfl (fun hc1 => ?_) (fun hc1 => ?_)
    ·
      refine wr_no rfl rfl rfl rfl ?_
      refine wr_no rfl rfl rfl rfl ?_
      refine wr_y rfl (y_pickT rfl rfl) ?_
      refine wr_nil ?_
      exact ⟨(Sub.cons rfl (Sub.cons rfl (Sub.to rfl (mb_t (by first | omega | exact ⟨fun h => ⟨(by assumption), h⟩, fun h => h.2⟩ | simp [*])) Sub.nil))), fun _ h => h⟩
    ·
      refine wr_yes rfl rfl ?_
      refine wr_y rfl (y_move rfl) ?_
      refine wr_yes rfl rfl ?_
      refine wr_y rfl (y_gt rfl rfl) ?_
      refine wr_y rfl (y_pickF rfl rfl) ?_
      refine wr_nil ?_
      exact ⟨(Sub.cons rfl (Sub.cons rfl (Sub.to rfl (mb (by first | omega | exact ⟨fun h => ⟨(by assumption), h⟩, fun h => h.2⟩ | simp [*])) Sub.nil))), fun _ h => h⟩
  refine wr_setF 14 rfl (by omega) ?_
  refine wr_nil ?_
  refine w_false rfl ?_
  refine w_skip ?_
  refine w_seq ?_
  refine w_reg ?_
  refine wr_y rfl (y_move rfl) ?_
  refine wr_a rfl (a_makeN Try.underlying35 zb3 rfl rfl (by omega) (by omega) (by omega)) ?_
  rintro _ _ ⟨g_1, rfl, rfl⟩
  refine wr_rows (R1 := [⟨3, 1, (some ⟨g_1, 0, none⟩), ((k).toNat), ((k).toNat), ints .i64 (List.replicate ((k).toNat) (0 : Int)), false⟩]) rfl ?_
  refine wr_as (v := .slice (some ⟨g_1, 0, none⟩) ((k).toNat) ((k).toNat)) rfl ?_
  refine wr_y rfl (y_assign rfl) ?_
  refine wr_nil ?_
  refine w_seq ?_
  refine w_seq ?_
  refine w_reg ?_
  refine wr_y rfl (y_move rfl) ?_
  refine wr_y rfl (y_len Try.underlying35 rfl) ?_
  refine wr_y rfl (y_move rfl) ?_
  refine wr_nil ?_
  refine w_block ?_
  refine w_loop2 (fun (m : Int) (V : List Int) => [(1, .int .i64 k), (6, .slice (some ⟨g_1, 0, none⟩) ((k).toNat) ((k).toNat)), (17, .slice A_ks ks.length c_ks), (18, .int .i64 ((ks.length : Nat) : Int)), (19, .int .i64 m)]) (fun (m : Int) (V : List Int) => [⟨3, 1, (some ⟨g_1, 0, none⟩), ((k).toNat), ((k).toNat), ints .i64 V, false⟩]) (fun (m : Int) (V : List Int) => (0 ≤ m) ∧ (m ≤ ks.length) ∧ (V = cntV (ks.take m.toNat) k)) (fun (m : Int) (V : List Int) => (ks.length - m).toNat) ?_ ?_
  ·
    exact ⟨0, List.replicate ((k).toNat) (0 : Int), ⟨(by omega), (by omega), ((cntV_nil k).symm)⟩, (Sub.cons rfl (Sub.cons rfl (Sub.cons rfl (Sub.cons rfl (Sub.cons rfl Sub.nil))))), fun _ h => h⟩
  intro m V ⟨hm0, hm1, hV⟩
  refine w_seq ?_
  refine w_reg ?_
  refine wr_y rfl (y_lt rfl rfl) ?_
  refine wr_nil ?_
  refine w_seq ?_
  refine w_if rfl (fun hc2 => ?_) (fun hc2 => ?_)
  ·
    have hx := hok.2 _ (rd_mem (L := ks) hm0 (by omega))
    have hb : 0 ≤ rd V (rd ks m) ∧ rd V (rd ks m) ≤ m := by
      have a := cntV_bound (ks := ks.take m.toNat) (k := k) (x := rd ks m)
      rw [← hV, List.length_take] at a
      omega
    refine w_skip ?_
    refine w_seq ?_
    refine w_block ?_
    refine w_seq ?_
    refine w_reg ?_
    refine wr_y rfl (y_index1 Try.underlying35 sz3 rfl rfl (h_ks.c _) (by omega) (by omega)) ?_
    refine wr_y rfl (y_ldI Try.underlying3 rfl rfl (h_ks.c _) (by omega) (by omega)) ?_
    refine wr_y rfl (y_assign rfl) ?_
    refine wr_nil ?_
    refine w_seq ?_
    refine w_seq ?_
    refine w_reg ?_
    refine wr_y rfl (y_move rfl) ?_
    refine wr_y rfl (y_lt rfl rfl) ?_
    refine wr_y rfl (y_move rfl) ?_
    refine wr_mid 4 [(1, .int .i64 k), (6, .slice (some ⟨g_1, 0, none⟩) ((k).toNat) ((k).toNat)), (8, .int .i64 (rd ks m)), (17, .slice A_ks ks.length c_ks), (18, .int .i64 ((ks.length : Nat) : Int)), (19, .int .i64 m), (29, .bool (decide (((rd ks m) < 0) ∨ (k ≤ (rd ks m)))))] [⟨3, 1, (some ⟨g_1, 0, none⟩), ((k).toNat), ((k).toNat), ints .i64 V, false⟩] ?_ ?_
    ·
      refine wr_case 25 rfl (fun hc3 => ?_) (fun hc3 => ?_)
      ·
        refine wr_no rfl rfl rfl rfl ?_
        refine wr_no rfl rfl rfl rfl ?_
        refine wr_no rfl rfl rfl rfl ?_
        refine wr_y rfl (y_pickT rfl rfl) ?_
        refine wr_nil ?_
        exact ⟨(Sub.cons rfl (Sub.cons rfl (Sub.cons rfl (Sub.cons rfl (Sub.cons rfl (Sub.cons rfl (Sub.to rfl (mb_t (by first | omega | exact ⟨fun h => ⟨(by assumption), h⟩, fun h => h.2⟩ | simp [*])) Sub.nil))))))), fun _ h => h⟩
      ·
        refine wr_yes rfl rfl ?_
        refine wr_y rfl (y_move rfl) ?_
        refine wr_yes rfl rfl ?_
        refine wr_y rfl (y_move rfl) ?_
        refine wr_yes rfl rfl ?_
        refine wr_y rfl (y_ge rfl rfl) ?_
        refine wr_y rfl (y_pickF rfl rfl) ?_
        refine wr_nil ?_
        exact ⟨(Sub.cons rfl (Sub.cons rfl (Sub.cons rfl (Sub.cons rfl (Sub.cons rfl (Sub.cons rfl (Sub.to rfl (mb (by first | omega | exact ⟨fun h => ⟨(by assumption), h⟩, fun h => h.2⟩ | simp [*])) Sub.nil))))))), fun _ h => h⟩
    refine wr_setF 29 rfl (by omega) ?_
    refine wr_nil ?_
    refine w_false rfl ?_
    refine w_skip ?_
    refine w_reg ?_
    refine wr_y rfl (y_move rfl) ?_
    refine wr_y rfl (y_move rfl) ?_
    refine wr_y rfl (y_index1 Try.underlying35 sz3 rfl rfl (rdr 0 rfl) (by omega) (by omega)) ?_
    refine wr_y rfl (y_ldI Try.underlying3 rfl rfl (rdr 0 rfl) (by omega) (by omega)) ?_
    refine wr_y rfl (y_addI rfl rfl (by omega)) ?_
    refine wr_y rfl (y_index1 Try.underlying35 sz3 rfl rfl (rdr 0 rfl) (by omega) (by omega)) ?_
    refine wr_n (a_storeI 0 rfl sz3 rfl rfl (by omega) (by omega)) ?_
    rintro _ _ rfl
    refine wr_rows (R1 := [⟨3, 1, (some ⟨g_1, 0, none⟩), ((k).toNat), ((k).toNat), ints .i64 (upd V (rd ks m) ((rd V (rd ks m)) + 1)), false⟩]) rfl ?_
    refine wr_nil ?_
    refine w_reg ?_
    refine wr_y rfl (y_addI rfl rfl (by omega)) ?_
    refine wr_y rfl (y_move rfl) ?_
    refine wr_nil ?_
    exact ⟨m + 1, upd V (rd ks m) ((rd V (rd ks m)) + 1), ⟨(by omega), (by omega), (by rw [take_rd hm0 (by omega), ← cntV_step hx.1 hx.2, ← hV])⟩, (by omega), (Sub.cons rfl (Sub.cons rfl (Sub.cons rfl (Sub.cons rfl (Sub.cons rfl Sub.nil))))), fun _ h => h⟩
  ·
    refine w_exit ?_
    refine w_seq ?_
    refine w_reg ?_
    refine wr_y rfl (y_move rfl) ?_
    refine wr_y rfl (y_assign rfl) ?_
    refine wr_y rfl (y_assign rfl) ?_
    refine wr_nil ?_
    refine w_retR (R1 := [⟨3, 1, (some ⟨g_1, 0, none⟩), ((k).toNat), ((k).toNat), ints .i64 V, false⟩]) (fun _ h => h.sel [0] (by decide) rfl) ?_
    refine ⟨_, _, rfl, rfl, ?_⟩
    have e : ks.take m.toNat = ks := List.take_of_length_le (by omega)
    rw [e] at hV
    subst hV
    exact ⟨_, _, rfl, rfl⟩

/-! whorl/bucket.Counts -/
set_option maxRecDepth 100000 in
theorem countsNo_ct {w : World} {A_ks : Option Addr} {n_ks c_ks : Nat} {ks : List Int} {k : Int} (h_ks : Rd w A_ks n_ks c_ks 1 (ints .i64 ks)) (hno : ¬ ((0 ≤ k ∧ k ≤ 1048576) ∧ ∀ x ∈ ks, 0 ≤ x ∧ x < k)) :
    Ct Try.prog 95 #[.slice A_ks n_ks c_ks, .int .i64 k] w.heap.size w [] (fun v R' => v = .tuple #[.slice none 0 0, .bool false]) := by
  obtain rfl := h_ks.lenI
  refine fn2 Try.func95 rfl rfl rfl ?_
  have m_ks := h_ks.max
  refine w_seq ?_
  refine w_reg ?_
  refine wr_y rfl (y_assign rfl) ?_
  refine wr_y rfl (y_assign rfl) ?_
  refine wr_nil ?_
  refine w_seq ?_
  refine w_seq ?_
  refine w_reg ?_
  refine wr_y rfl (y_move rfl) ?_
  refine wr_y rfl (y_lt rfl rfl) ?_
  refine wr_y rfl (y_move rfl) ?_
  refine wr_mid 3 [(0, .slice A_ks ks.length c_ks), (1, .int .i64 k), (14, .bool (decide ((k < 0) ∨ (1048576 < k))))] [] ?_ ?_
  ·
    refine wr_case 11 rfl (fun hc1 => ?_) (fun hc1 => ?_)
    ·
      refine wr_no rfl rfl rfl rfl ?_
      refine wr_no rfl rfl rfl rfl ?_
      refine wr_y rfl (y_pickT rfl rfl) ?_
      refine wr_nil ?_
      exact ⟨(Sub.cons rfl (Sub.cons rfl (Sub.to rfl (mb_t (by first | omega | exact ⟨fun h => ⟨(by assumption), h⟩, fun h => h.2⟩ | simp [*])) Sub.nil))), fun _ h => h⟩
    ·
      refine wr_yes rfl rfl ?_
      refine wr_y rfl (y_move rfl) ?_
      refine wr_yes rfl rfl ?_
      refine wr_y rfl (y_gt rfl rfl) ?_
      refine wr_y rfl (y_pickF rfl rfl) ?_
      refine wr_nil ?_
      exact ⟨(Sub.cons rfl (Sub.cons rfl (Sub.to rfl (mb (by first | omega | exact ⟨fun h => ⟨(by assumption), h⟩, fun h => h.2⟩ | simp [*])) Sub.nil))), fun _ h => h⟩
  refine wr_nil ?_
  refine w_if rfl (fun hc2 => ?_) (fun hc2 => ?_)
  ·
    refine w_seq ?_
    refine w_reg ?_
    refine wr_y rfl (y_assign rfl) ?_
    refine wr_y rfl (y_assign rfl) ?_
    refine wr_nil ?_
    refine w_ret ?_
    refine ⟨_, _, rfl, rfl, ?_⟩
    rfl
  ·
    refine w_skip ?_
    refine w_seq ?_
    refine w_reg ?_
    refine wr_y rfl (y_move rfl) ?_
    refine wr_a rfl (a_makeN Try.underlying35 zb3 rfl rfl (by omega) (by omega) (by omega)) ?_
    rintro _ _ ⟨g_1, rfl, rfl⟩
    refine wr_rows (R1 := [⟨3, 1, (some ⟨g_1, 0, none⟩), ((k).toNat), ((k).toNat), ints .i64 (List.replicate ((k).toNat) (0 : Int)), false⟩]) rfl ?_
    refine wr_as (v := .slice (some ⟨g_1, 0, none⟩) ((k).toNat) ((k).toNat)) rfl ?_
    refine wr_y rfl (y_assign rfl) ?_
    refine wr_nil ?_
    refine w_seq ?_
    refine w_seq ?_
    refine w_reg ?_
    refine wr_y rfl (y_move rfl) ?_
    refine wr_y rfl (y_len Try.underlying35 rfl) ?_
    refine wr_y rfl (y_move rfl) ?_
    refine wr_nil ?_
    refine w_block ?_
    refine w_loop2 (fun (m : Int) (V : List Int) => [(1, .int .i64 k), (6, .slice (some ⟨g_1, 0, none⟩) ((k).toNat) ((k).toNat)), (17, .slice A_ks ks.length c_ks), (18, .int .i64 ((ks.length : Nat) : Int)), (19, .int .i64 m)]) (fun (m : Int) (V : List Int) => [⟨3, 1, (some ⟨g_1, 0, none⟩), ((k).toNat), ((k).toNat), ints .i64 V, false⟩]) (fun (m : Int) (V : List Int) => (0 ≤ m) ∧ (m ≤ ks.length) ∧ (∀ x ∈ ks.take m.toNat, 0 ≤ x ∧ x < k) ∧ (V = cntV (ks.take m.toNat) k)) (fun (m : Int) (V : List Int) => (ks.length - m).toNat) ?_ ?_
    ·
      exact ⟨0, List.replicate ((k).toNat) (0 : Int), ⟨(by omega), (by omega), (fun x hx => by cases hx), ((cntV_nil k).symm)⟩, (Sub.cons rfl (Sub.cons rfl (Sub.cons rfl (Sub.cons rfl (Sub.cons rfl Sub.nil))))), fun _ h => h⟩
    intro m V ⟨hm0, hm1, hall, hV⟩
    refine w_seq ?_
    refine w_reg ?_
    refine wr_y rfl (y_lt rfl rfl) ?_
    refine wr_nil ?_
    refine w_seq ?_
    refine w_if rfl (fun hc3 => ?_) (fun hc3 => ?_)
    ·
      refine w_skip ?_
      refine w_seq ?_
      refine w_block ?_
      refine w_seq ?_
      refine w_reg ?_
      refine wr_y rfl (y_index1 Try.underlying35 sz3 rfl rfl (h_ks.c _) (by omega) (by omega)) ?_
      refine wr_y rfl (y_ldI Try.underlying3 rfl rfl (h_ks.c _) (by omega) (by omega)) ?_
      refine wr_y rfl (y_assign rfl) ?_
      refine wr_nil ?_
      refine w_seq ?_
      refine w_seq ?_
      refine w_reg ?_
      refine wr_y rfl (y_move rfl) ?_
      refine wr_y rfl (y_lt rfl rfl) ?_
      refine wr_y rfl (y_move rfl) ?_
      refine wr_mid 4 [(1, .int .i64 k), (6, .slice (some ⟨g_1, 0, none⟩) ((k).toNat) ((k).toNat)), (8, .int .i64 (rd ks m)), (17, .slice A_ks ks.length c_ks), (18, .int .i64 ((ks.length : Nat) : Int)), (19, .int .i64 m), (29, .bool (decide (((rd ks m) < 0) ∨ (k ≤ (rd ks m)))))] [⟨3, 1, (some ⟨g_1, 0, none⟩), ((k).toNat), ((k).toNat), ints .i64 V, false⟩] ?_ ?_
      ·
        refine wr_case 25 rfl (fun hc4 => ?_) (fun hc4 => ?_)
        ·
          refine wr_no rfl rfl rfl rfl ?_
          refine wr_no rfl rfl rfl rfl ?_
          refine wr_no rfl rfl rfl rfl ?_
          refine wr_y rfl (y_pickT rfl rfl) ?_
          refine wr_nil ?_
          exact ⟨(Sub.cons rfl (Sub.cons rfl (Sub.cons rfl (Sub.cons rfl (Sub.cons rfl (Sub.cons rfl (Sub.to rfl (mb_t (by first | omega | exact ⟨fun h => ⟨(by assumption), h⟩, fun h => h.2⟩ | simp [*])) Sub.nil))))))), fun _ h => h⟩
        ·
          refine wr_yes rfl rfl ?_
          refine wr_y rfl (y_move rfl) ?_
          refine wr_yes rfl rfl ?_
          refine wr_y rfl (y_move rfl) ?_
          refine wr_yes rfl rfl ?_
          refine wr_y rfl (y_ge rfl rfl) ?_
          refine wr_y rfl (y_pickF rfl rfl) ?_
          refine wr_nil ?_
          exact ⟨(Sub.cons rfl (Sub.cons rfl (Sub.cons rfl (Sub.cons rfl (Sub.cons rfl (Sub.cons rfl (Sub.to rfl (mb (by first | omega | exact ⟨fun h => ⟨(by assumption), h⟩, fun h => h.2⟩ | simp [*])) Sub.nil))))))), fun _ h => h⟩
      refine wr_nil ?_
      refine w_if rfl (fun hc5 => ?_) (fun hc5 => ?_)
      ·
        refine w_seq ?_
        refine w_reg ?_
        refine wr_y rfl (y_assign rfl) ?_
        refine wr_y rfl (y_assign rfl) ?_
        refine wr_nil ?_
        refine w_retR (R1 := []) (fun _ h => h.sel [] (by decide) rfl) ?_
        refine ⟨_, _, rfl, rfl, ?_⟩
        rfl
      ·
        have hb : 0 ≤ rd V (rd ks m) ∧ rd V (rd ks m) ≤ m := by
          have a := cntV_bound (ks := ks.take m.toNat) (k := k) (x := rd ks m)
          rw [← hV, List.length_take] at a
          omega
        refine w_skip ?_
        refine w_reg ?_
        refine wr_y rfl (y_move rfl) ?_
        refine wr_y rfl (y_move rfl) ?_
        refine wr_y rfl (y_index1 Try.underlying35 sz3 rfl rfl (rdr 0 rfl) (by omega) (by omega)) ?_
        refine wr_y rfl (y_ldI Try.underlying3 rfl rfl (rdr 0 rfl) (by omega) (by omega)) ?_
        refine wr_y rfl (y_addI rfl rfl (by omega)) ?_
        refine wr_y rfl (y_index1 Try.underlying35 sz3 rfl rfl (rdr 0 rfl) (by omega) (by omega)) ?_
        refine wr_n (a_storeI 0 rfl sz3 rfl rfl (by omega) (by omega)) ?_
        rintro _ _ rfl
        refine wr_rows (R1 := [⟨3, 1, (some ⟨g_1, 0, none⟩), ((k).toNat), ((k).toNat), ints .i64 (upd V (rd ks m) ((rd V (rd ks m)) + 1)), false⟩]) rfl ?_
        refine wr_nil ?_
        refine w_reg ?_
        refine wr_y rfl (y_addI rfl rfl (by omega)) ?_
        refine wr_y rfl (y_move rfl) ?_
        refine wr_nil ?_
        exact ⟨m + 1, upd V (rd ks m) ((rd V (rd ks m)) + 1), ⟨(by omega), (by omega), (by rw [take_rd hm0 (by omega)]; intro x hx; rcases List.mem_append.1 hx with hx | hx; exact hall x hx; obtain rfl := List.mem_singleton.1 hx; omega), (by rw [take_rd hm0 (by omega), ← cntV_step (by omega) (by omega), ← hV])⟩, (by omega), (Sub.cons rfl (Sub.cons rfl (Sub.cons rfl (Sub.cons rfl (Sub.cons rfl Sub.nil))))), fun _ h => h⟩
    ·
      refine w_exit ?_
      refine w_seq ?_
      refine w_reg ?_
      refine wr_y rfl (y_move rfl) ?_
      refine wr_y rfl (y_assign rfl) ?_
      refine wr_y rfl (y_assign rfl) ?_
      refine wr_nil ?_
      refine w_retR (R1 := []) (fun _ h => h.sel [] (by decide) rfl) ?_
      refine ⟨_, _, rfl, rfl, ?_⟩
      exact absurd ⟨by omega, by rw [List.take_of_length_le (by omega)] at hall; exact hall⟩ hno

/-! whorl/bucket.Starts -/
set_option maxRecDepth 100000 in
theorem starts_ct {w : World} {A_cs : Option Addr} {n_cs c_cs : Nat} {cs : List Int} (h_cs : Rd w A_cs n_cs c_cs 1 (ints .i64 cs)) (hcs : ∀ x ∈ cs, 0 ≤ x) (hsum : cs.sum ≤ 1000000000) (hcl : cs.length ≤ 1048576) :
    Ct Try.prog 96 #[.slice A_cs n_cs c_cs] w.heap.size w [] (fun v R' => ∃ A c, v = .slice A (startsV cs).length c ∧ R' = [⟨3, 1, A, (startsV cs).length, c, ints .i64 (startsV cs), false⟩]) := by
  obtain rfl := h_cs.lenI
  refine fn1 Try.func96 rfl rfl rfl ?_
  have m_cs := h_cs.max
  refine w_seq ?_
  refine w_reg ?_
  refine wr_y rfl (y_assign rfl) ?_
  refine wr_nil ?_
  refine w_seq ?_
  refine w_reg ?_
  refine wr_y rfl (y_move rfl) ?_
  refine wr_y rfl (y_len Try.underlying35 rfl) ?_
  refine wr_a rfl (a_makeN Try.underlying35 zb3 rfl rfl (by omega) (by omega) (by omega)) ?_
  rintro _ _ ⟨g_1, rfl, rfl⟩
  refine wr_rows (R1 := [⟨3, 1, (some ⟨g_1, 0, none⟩), cs.length, cs.length, ints .i64 (List.replicate cs.length (0 : Int)), false⟩]) rfl ?_
  refine wr_as (v := .slice (some ⟨g_1, 0, none⟩) cs.length cs.length) rfl ?_
  refine wr_y rfl (y_assign rfl) ?_
  refine wr_nil ?_
  refine w_seq ?_
  refine w_reg ?_
  refine wr_y rfl (y_assign rfl) ?_
  refine wr_nil ?_
  refine w_seq ?_
  refine w_seq ?_
  refine w_reg ?_
  refine wr_y rfl (y_move rfl) ?_
  refine wr_y rfl (y_len Try.underlying35 rfl) ?_
  refine wr_y rfl (y_move rfl) ?_
  refine wr_nil ?_
  refine w_block ?_
  refine w_loop3 (fun (i : Int) (n : Int) (V : List Int) => [(3, .slice (some ⟨g_1, 0, none⟩) cs.length cs.length), (4, .int .i64 n), (10, .slice A_cs cs.length c_cs), (11, .int .i64 ((cs.length : Nat) : Int)), (12, .int .i64 i)]) (fun (i : Int) (n : Int) (V : List Int) => [⟨3, 1, (some ⟨g_1, 0, none⟩), cs.length, cs.length, ints .i64 V, false⟩]) (fun (i : Int) (n : Int) (V : List Int) => (0 ≤ i) ∧ (i ≤ cs.length) ∧ (n = ps cs i) ∧ (V.length = cs.length) ∧ (∀ j : Int, 0 ≤ j → j < i → rd V j = ps cs j)) (fun (i : Int) (n : Int) (V : List Int) => (cs.length - i).toNat) ?_ ?_
  ·
    exact ⟨0, 0, List.replicate cs.length (0 : Int), ⟨(by omega), (by omega), (rfl), (by rw [List.length_replicate]), (fun j h1 h2 => by omega)⟩, (Sub.cons rfl (Sub.cons rfl (Sub.cons rfl (Sub.cons rfl (Sub.cons rfl Sub.nil))))), fun _ h => h⟩
  intro i n V ⟨hi0, hi1, hn, hl, hV⟩
  refine w_seq ?_
  refine w_reg ?_
  refine wr_y rfl (y_lt rfl rfl) ?_
  refine wr_nil ?_
  refine w_seq ?_
  refine w_if rfl (fun hc1 => ?_) (fun hc1 => ?_)
  ·
    have hb1 := ps_bound hcs i
    have hb2 := ps_bound hcs (i + 1)
    rw [ps_succ hi0 (by omega)] at hb2
    refine w_skip ?_
    refine w_seq ?_
    refine w_block ?_
    refine w_seq ?_
    refine w_reg ?_
    refine wr_y rfl (y_move rfl) ?_
    refine wr_y rfl (y_index1 Try.underlying35 sz3 rfl rfl (h_cs.c _) (by omega) (by omega)) ?_
    refine wr_y rfl (y_ldI Try.underlying3 rfl rfl (h_cs.c _) (by omega) (by omega)) ?_
    refine wr_y rfl (y_assign rfl) ?_
    refine wr_y rfl (y_assign rfl) ?_
    refine wr_nil ?_
    refine w_seq ?_
    refine w_reg ?_
    refine wr_y rfl (y_move rfl) ?_
    refine wr_y rfl (y_move rfl) ?_
    refine wr_y rfl (y_move rfl) ?_
    refine wr_y rfl (y_index1 Try.underlying35 sz3 rfl rfl (rdr 0 rfl) (by omega) (by omega)) ?_
    refine wr_n (a_storeI 0 rfl sz3 rfl rfl (by omega) (by omega)) ?_
    rintro _ _ rfl
    refine wr_rows (R1 := [⟨3, 1, (some ⟨g_1, 0, none⟩), cs.length, cs.length, ints .i64 (upd V i n), false⟩]) rfl ?_
    refine wr_nil ?_
    refine w_reg ?_
    refine wr_y rfl (y_move rfl) ?_
    refine wr_y rfl (y_move rfl) ?_
    refine wr_y rfl (y_addI rfl rfl (by omega)) ?_
    refine wr_y rfl (y_assign rfl) ?_
    refine wr_nil ?_
    refine w_reg ?_
    refine wr_y rfl (y_addI rfl rfl (by omega)) ?_
    refine wr_y rfl (y_move rfl) ?_
    refine wr_nil ?_
    exact ⟨i + 1, n + (rd cs i), upd V i n, ⟨(by omega), (by omega), (by rw [ps_succ hi0 (by omega), hn]), (by rw [upd_length]; exact hl), (fill_step hi0 (by omega) hV hn)⟩, (by omega), (Sub.cons rfl (Sub.cons rfl (Sub.cons rfl (Sub.cons rfl (Sub.cons rfl Sub.nil))))), fun _ h => h⟩
  ·
    refine w_exit ?_
    refine w_seq ?_
    refine w_reg ?_
    refine wr_y rfl (y_move rfl) ?_
    refine wr_y rfl (y_assign rfl) ?_
    refine wr_nil ?_
    refine w_retR (R1 := [⟨3, 1, (some ⟨g_1, 0, none⟩), cs.length, cs.length, ints .i64 V, false⟩]) (fun _ h => h.sel [0] (by decide) rfl) ?_
    refine ⟨_, rfl, ?_⟩
    obtain rfl : V = startsV cs := list_ext_rd (hl.trans (startsV_len cs).symm) fun j h1 h2 => by rw [rd_startsV h1 (by omega)]; exact hV j h1 (by omega)
    rw [startsV_len]
    exact ⟨_, _, rfl, rfl⟩

/-! whorl/bucket.Pass -/
set_option maxRecDepth 100000 in
set_option maxHeartbeats 800000 in
theorem pass_ct {w : World} {A_order : Option Addr} {n_order c_order : Nat} {order : List Int} {A_keys : Option Addr} {n_keys c_keys : Nat} {keys : List Int} {k : Int} (h_order : Rd w A_order n_order c_order 1 (ints .i64 order)) (h_keys : Rd w A_keys n_keys c_keys 1 (ints .i64 keys)) (hk : 0 ≤ k ∧ k ≤ 1048576) (hkeys : ∀ x ∈ keys, 0 ≤ x ∧ x < k) (ho : ∀ i ∈ order, 0 ≤ i ∧ i < keys.length) (hlen : order.length ≤ 1000000) :
    Ct Try.prog 74 #[.slice A_order n_order c_order, .slice A_keys n_keys c_keys, .int .i64 k] w.heap.size w [] (fun v R' => ∃ A c, v = .tuple #[.slice A order.length c, .bool true] ∧ R' = [⟨3, 1, A, order.length, c, ints .i64 (passK order keys k.toNat), false⟩]) := by
  obtain rfl := h_order.lenI
  obtain rfl := h_keys.lenI
  refine fn2 Try.func74 rfl rfl rfl ?_
  have m_order := h_order.max
  have m_keys := h_keys.max
  have hko : ∀ i ∈ order, 0 ≤ rd keys i ∧ rd keys i < k := fun i hi => hkeys _ (rd_mem (ho i hi).1 (ho i hi).2)
  refine w_seq ?_
  refine w_reg ?_
  refine wr_y rfl (y_assign rfl) ?_
  refine wr_y rfl (y_assign rfl) ?_
  refine wr_nil ?_
  refine w_seq ?_
  refine w_seq ?_
  refine w_reg ?_
  refine wr_y rfl (y_move rfl) ?_
  refine wr_y rfl (y_move rfl) ?_
  refine wr_a rfl (a_callF en95 rfl (Ct.fresh (fun w hw => countsOk_ct ((h_keys.c _) w hw) ⟨hk, hkeys⟩))) ?_
  rintro _ _ ⟨_, rfl, A_1, c_2, rfl, rfl⟩
  refine wr_y rfl (y_move rfl) ?_
  refine wr_y rfl (y_extract rfl rfl) ?_
  refine wr_y rfl (y_extract rfl rfl) ?_
  refine wr_y rfl (y_assign rfl) ?_
  refine wr_y rfl (y_assign rfl) ?_
  refine wr_nil ?_
  refine w_seq ?_
  refine w_reg ?_
  refine wr_y rfl (y_move rfl) ?_
  refine wr_y rfl (y_not rfl) ?_
  refine wr_nil ?_
  refine w_false rfl ?_
  refine w_skip ?_
  refine w_seq ?_
  refine w_reg ?_
  refine wr_y rfl (y_move rfl) ?_
  refine wr_a rfl (a_makeN Try.underlying35 zb3 rfl rfl (by omega) (by omega) (by omega)) ?_
  rintro _ _ ⟨g_4, rfl, rfl⟩
  refine wr_rows (R1 := [⟨3, 1, (some ⟨g_4, 0, none⟩), ((k).toNat), ((k).toNat), ints .i64 (List.replicate ((k).toNat) (0 : Int)), false⟩, ⟨3, 1, A_1, ((k).toNat), c_2, ints .i64 (cntV keys k), false⟩]) rfl ?_
  refine wr_as (v := .slice (some ⟨g_4, 0, none⟩) ((k).toNat) ((k).toNat)) rfl ?_
  refine wr_y rfl (y_assign rfl) ?_
  refine wr_nil ?_
  refine w_seq ?_
  refine w_seq ?_
  refine w_reg ?_
  refine wr_y rfl (y_move rfl) ?_
  refine wr_y rfl (y_len Try.underlying35 rfl) ?_
  refine wr_y rfl (y_move rfl) ?_
  refine wr_nil ?_
  refine w_block ?_
  refine w_loop2 (fun (m : Int) (V : List Int) => [(0, .slice A_order order.length c_order), (1, .slice A_keys keys.length c_keys), (10, .slice (some ⟨g_4, 0, none⟩) ((k).toNat) ((k).toNat)), (27, .slice A_order order.length c_order), (28, .int .i64 ((order.length : Nat) : Int)), (29, .int .i64 m)]) (fun (m : Int) (V : List Int) => [⟨3, 1, (some ⟨g_4, 0, none⟩), ((k).toNat), ((k).toNat), ints .i64 V, false⟩, ⟨3, 1, A_1, ((k).toNat), c_2, ints .i64 (cntV keys k), false⟩]) (fun (m : Int) (V : List Int) => (0 ≤ m) ∧ (m ≤ order.length) ∧ (V = cntV ((order.take m.toNat).map (rd keys)) k)) (fun (m : Int) (V : List Int) => (order.length - m).toNat) ?_ ?_
  ·
    exact ⟨0, List.replicate ((k).toNat) (0 : Int), ⟨(by omega), (by omega), ((cntV_nil k).symm)⟩, (Sub.cons rfl (Sub.cons rfl (Sub.cons rfl (Sub.cons rfl (Sub.cons rfl (Sub.cons rfl Sub.nil)))))), fun _ h => h⟩
  intro m V ⟨hm0, hm1, hV⟩
  refine w_seq ?_
  refine w_reg ?_
  refine wr_y rfl (y_lt rfl rfl) ?_
  refine wr_nil ?_
  refine w_seq ?_
  refine w_if rfl (fun hc1 => ?_) (fun hc1 => ?_)
  ·
    have hi := ho _ (rd_mem (L := order) hm0 (by omega))
    have hx := hko _ (rd_mem (L := order) hm0 (by omega))
    have hb : 0 ≤ rd V (rd keys (rd order m)) ∧ rd V (rd keys (rd order m)) ≤ m := by
      have a := cntV_bound (ks := (order.take m.toNat).map (rd keys)) (k := k) (x := rd keys (rd order m))
      rw [← hV, List.length_map, List.length_take] at a
      omega
    have hVl : V.length = k.toNat := by rw [hV, cntV_len]
    refine w_skip ?_
    refine w_seq ?_
    refine w_block ?_
    refine w_seq ?_
    refine w_reg ?_
    refine wr_y rfl (y_index1 Try.underlying35 sz3 rfl rfl (h_order.c _) (by omega) (by omega)) ?_
    refine wr_y rfl (y_ldI Try.underlying3 rfl rfl (h_order.c _) (by omega) (by omega)) ?_
    refine wr_y rfl (y_assign rfl) ?_
    refine wr_nil ?_
    refine w_seq ?_
    refine w_seq ?_
    refine w_reg ?_
    refine wr_y rfl (y_move rfl) ?_
    refine wr_y rfl (y_lt rfl rfl) ?_
    refine wr_y rfl (y_move rfl) ?_
    refine wr_mid 5 [(0, .slice A_order order.length c_order), (1, .slice A_keys keys.length c_keys), (10, .slice (some ⟨g_4, 0, none⟩) ((k).toNat) ((k).toNat)), (12, .int .i64 (rd order m)), (27, .slice A_order order.length c_order), (28, .int .i64 ((order.length : Nat) : Int)), (29, .int .i64 m), (40, .bool (decide (((rd order m) < 0) ∨ (((keys.length : Nat) : Int) ≤ (rd order m)))))] [⟨3, 1, (some ⟨g_4, 0, none⟩), ((k).toNat), ((k).toNat), ints .i64 V, false⟩, ⟨3, 1, A_1, ((k).toNat), c_2, ints .i64 (cntV keys k), false⟩] ?_ ?_
    ·
      refine wr_case 35 rfl (fun hc2 => ?_) (fun hc2 => ?_)
      ·
        refine wr_no rfl rfl rfl rfl ?_
        refine wr_no rfl rfl rfl rfl ?_
        refine wr_no rfl rfl rfl rfl ?_
        refine wr_no rfl rfl rfl rfl ?_
        refine wr_y rfl (y_pickT rfl rfl) ?_
        refine wr_nil ?_
        exact ⟨(Sub.cons rfl (Sub.cons rfl (Sub.cons rfl (Sub.cons rfl (Sub.cons rfl (Sub.cons rfl (Sub.cons rfl (Sub.to rfl (mb_t (by first | omega | exact ⟨fun h => ⟨(by assumption), h⟩, fun h => h.2⟩ | simp [*])) Sub.nil)))))))), fun _ h => h⟩
      ·
        refine wr_yes rfl rfl ?_
        refine wr_y rfl (y_move rfl) ?_
        refine wr_yes rfl rfl ?_
        refine wr_y rfl (y_move rfl) ?_
        refine wr_yes rfl rfl ?_
        refine wr_y rfl (y_len Try.underlying35 rfl) ?_
        refine wr_yes rfl rfl ?_
        refine wr_y rfl (y_ge rfl rfl) ?_
        refine wr_y rfl (y_pickF rfl rfl) ?_
        refine wr_nil ?_
        exact ⟨(Sub.cons rfl (Sub.cons rfl (Sub.cons rfl (Sub.cons rfl (Sub.cons rfl (Sub.cons rfl (Sub.cons rfl (Sub.to rfl (mb (by first | omega | exact ⟨fun h => ⟨(by assumption), h⟩, fun h => h.2⟩ | simp [*])) Sub.nil)))))))), fun _ h => h⟩
    refine wr_setF 40 rfl (by omega) ?_
    refine wr_nil ?_
    refine w_false rfl ?_
    refine w_skip ?_
    refine w_reg ?_
    refine wr_y rfl (y_move rfl) ?_
    refine wr_y rfl (y_move rfl) ?_
    refine wr_y rfl (y_move rfl) ?_
    refine wr_y rfl (y_index1 Try.underlying35 sz3 rfl rfl (h_keys.c _) (by omega) (by omega)) ?_
    refine wr_y rfl (y_ldI Try.underlying3 rfl rfl (h_keys.c _) (by omega) (by omega)) ?_
    refine wr_y rfl (y_index1 Try.underlying35 sz3 rfl rfl (rdr 0 rfl) (by omega) (by omega)) ?_
    refine wr_y rfl (y_ldI Try.underlying3 rfl rfl (rdr 0 rfl) (by omega) (by omega)) ?_
    refine wr_y rfl (y_addI rfl rfl (by omega)) ?_
    refine wr_y rfl (y_index1 Try.underlying35 sz3 rfl rfl (rdr 0 rfl) (by omega) (by omega)) ?_
    refine wr_n (a_storeI 0 rfl sz3 rfl rfl (by omega) (by omega)) ?_
    rintro _ _ rfl
    refine wr_rows (R1 := [⟨3, 1, (some ⟨g_4, 0, none⟩), ((k).toNat), ((k).toNat), ints .i64 (upd V (rd keys (rd order m)) ((rd V (rd keys (rd order m))) + 1)), false⟩, ⟨3, 1, A_1, ((k).toNat), c_2, ints .i64 (cntV keys k), false⟩]) rfl ?_
    refine wr_nil ?_
    refine w_reg ?_
    refine wr_y rfl (y_addI rfl rfl (by omega)) ?_
    refine wr_y rfl (y_move rfl) ?_
    refine wr_nil ?_
    exact ⟨m + 1, upd V (rd keys (rd order m)) ((rd V (rd keys (rd order m))) + 1), ⟨(by omega), (by omega), (by rw [take_rd hm0 (by omega), List.map_append, List.map_singleton, ← cntV_step hx.1 hx.2, ← hV])⟩, (by omega), (Sub.cons rfl (Sub.cons rfl (Sub.cons rfl (Sub.cons rfl (Sub.cons rfl (Sub.cons rfl Sub.nil)))))), fun _ h => h⟩
  ·
    have hV2 : V = (cntV (order.map (rd keys)) k) := by rw [hV, List.take_of_length_le (by omega)]
    have hSl : (startsV V).length = k.toNat := by rw [startsV_len, hV, cntV_len]
    refine w_exit ?_
    refine w_seq ?_
    refine w_reg ?_
    refine wr_y rfl (y_move rfl) ?_
    refine wr_a rfl (a_callF en96 rfl (Ct.fresh (fun w hw => starts_ct ((rdr 0 rfl) w hw) (by rw [hV2]; exact cntV_nonneg _ _) (by rw [hV2, cntV_sum (by omega) hko]; omega) (by rw [hV2, cntV_len]; omega)))) ?_
    rintro _ _ ⟨_, rfl, A_5, c_6, rfl, rfl⟩
    refine wr_y rfl (y_assign rfl) ?_
    refine wr_nil ?_
    refine w_seq ?_
    refine w_reg ?_
    refine wr_y rfl (y_move rfl) ?_
    refine wr_y rfl (y_len Try.underlying35 rfl) ?_
    refine wr_a rfl (a_makeN Try.underlying35 zb3 rfl rfl (by omega) (by omega) (by omega)) ?_
    rintro _ _ ⟨g_7, rfl, rfl⟩
    refine wr_rows (R1 := [⟨3, 1, (some ⟨g_7, 0, none⟩), order.length, order.length, ints .i64 (List.replicate order.length (0 : Int)), false⟩, ⟨3, 1, A_5, (startsV V).length, c_6, ints .i64 (startsV V), false⟩, ⟨3, 1, (some ⟨g_4, 0, none⟩), ((k).toNat), ((k).toNat), ints .i64 V, false⟩, ⟨3, 1, A_1, ((k).toNat), c_2, ints .i64 (cntV keys k), false⟩]) rfl ?_
    refine wr_as (v := .slice (some ⟨g_7, 0, none⟩) order.length order.length) rfl ?_
    refine wr_y rfl (y_assign rfl) ?_
    refine wr_nil ?_
    refine w_seq ?_
    refine w_seq ?_
    refine w_reg ?_
    refine wr_y rfl (y_move rfl) ?_
    refine wr_y rfl (y_len Try.underlying35 rfl) ?_
    refine wr_y rfl (y_move rfl) ?_
    refine wr_nil ?_
    refine w_block ?_
    refine w_loop3 (fun (q : Int) (S : List Int) (Lr : List Int) => [(1, .slice A_keys keys.length c_keys), (13, .slice A_5 ((startsV V).length) c_6), (14, .slice (some ⟨g_7, 0, none⟩) order.length order.length), (56, .slice A_order order.length c_order), (57, .int .i64 ((order.length : Nat) : Int)), (58, .int .i64 q)]) (fun (q : Int) (S : List Int) (Lr : List Int) => [⟨3, 1, (some ⟨g_7, 0, none⟩), order.length, order.length, ints .i64 Lr, false⟩, ⟨3, 1, A_5, (startsV V).length, c_6, ints .i64 S, false⟩, ⟨3, 1, (some ⟨g_4, 0, none⟩), ((k).toNat), ((k).toNat), ints .i64 V, false⟩, ⟨3, 1, A_1, ((k).toNat), c_2, ints .i64 (cntV keys k), false⟩]) (fun (q : Int) (S : List Int) (Lr : List Int) => (0 ≤ q) ∧ (q ≤ order.length) ∧ (PassI order keys S Lr k q)) (fun (q : Int) (S : List Int) (Lr : List Int) => (order.length - q).toNat) ?_ ?_
    ·
      exact ⟨0, startsV V, List.replicate order.length (0 : Int), ⟨(by omega), (by omega), (by rw [hV2]; exact passI_zero)⟩, (Sub.cons rfl (Sub.cons rfl (Sub.cons rfl (Sub.cons rfl (Sub.cons rfl (Sub.cons rfl Sub.nil)))))), fun _ h => h⟩
    intro q S Lr ⟨hq0, hq1, hP⟩
    refine w_seq ?_
    refine w_reg ?_
    refine wr_y rfl (y_lt rfl rfl) ?_
    refine wr_nil ?_
    refine w_seq ?_
    refine w_if rfl (fun hc3 => ?_) (fun hc3 => ?_)
    ·
      have hi := ho _ (rd_mem (L := order) hq0 (by omega))
      have hx := hko _ (rd_mem (L := order) hq0 (by omega))
      have hlt := hP.lt hko hq0 (by omega)
      have hl1 := hP.len
      have hl2 := hP.alen
      refine w_skip ?_
      refine w_seq ?_
      refine w_block ?_
      refine w_seq ?_
      refine w_reg ?_
      refine wr_y rfl (y_index1 Try.underlying35 sz3 rfl rfl (h_order.c _) (by omega) (by omega)) ?_
      refine wr_y rfl (y_ldI Try.underlying3 rfl rfl (h_order.c _) (by omega) (by omega)) ?_
      refine wr_y rfl (y_assign rfl) ?_
      refine wr_nil ?_
      refine w_seq ?_
      refine w_reg ?_
      refine wr_y rfl (y_move rfl) ?_
      refine wr_y rfl (y_move rfl) ?_
      refine wr_y rfl (y_move rfl) ?_
      refine wr_y rfl (y_move rfl) ?_
      refine wr_y rfl (y_index1 Try.underlying35 sz3 rfl rfl (h_keys.c _) (by omega) (by omega)) ?_
      refine wr_y rfl (y_ldI Try.underlying3 rfl rfl (h_keys.c _) (by omega) (by omega)) ?_
      refine wr_y rfl (y_index1 Try.underlying35 sz3 rfl rfl (rdr 1 rfl) (by omega) (by omega)) ?_
      refine wr_y rfl (y_ldI Try.underlying3 rfl rfl (rdr 1 rfl) (by omega) (by omega)) ?_
      refine wr_y rfl (y_move rfl) ?_
      refine wr_y rfl (y_index1 Try.underlying35 sz3 rfl rfl (rdr 0 rfl) (by omega) (by omega)) ?_
      refine wr_n (a_storeI 0 rfl sz3 rfl rfl (by omega) (by omega)) ?_
      rintro _ _ rfl
      refine wr_rows (R1 := [⟨3, 1, (some ⟨g_7, 0, none⟩), order.length, order.length, ints .i64 (upd Lr (rd S (rd keys (rd order q))) (rd order q)), false⟩, ⟨3, 1, A_5, (startsV V).length, c_6, ints .i64 S, false⟩, ⟨3, 1, (some ⟨g_4, 0, none⟩), ((k).toNat), ((k).toNat), ints .i64 V, false⟩, ⟨3, 1, A_1, ((k).toNat), c_2, ints .i64 (cntV keys k), false⟩]) rfl ?_
      refine wr_nil ?_
      refine w_reg ?_
      refine wr_y rfl (y_move rfl) ?_
      refine wr_y rfl (y_move rfl) ?_
      refine wr_y rfl (y_move rfl) ?_
      refine wr_y rfl (y_index1 Try.underlying35 sz3 rfl rfl (h_keys.c _) (by omega) (by omega)) ?_
      refine wr_y rfl (y_ldI Try.underlying3 rfl rfl (h_keys.c _) (by omega) (by omega)) ?_
      refine wr_y rfl (y_index1 Try.underlying35 sz3 rfl rfl (rdr 1 rfl) (by omega) (by omega)) ?_
      refine wr_y rfl (y_ldI Try.underlying3 rfl rfl (rdr 1 rfl) (by omega) (by omega)) ?_
      refine wr_y rfl (y_addI rfl rfl (by omega)) ?_
      refine wr_y rfl (y_index1 Try.underlying35 sz3 rfl rfl (rdr 1 rfl) (by omega) (by omega)) ?_
      refine wr_n (a_storeI 1 rfl sz3 rfl rfl (by omega) (by omega)) ?_
      rintro _ _ rfl
      refine wr_rows (R1 := [⟨3, 1, (some ⟨g_7, 0, none⟩), order.length, order.length, ints .i64 (upd Lr (rd S (rd keys (rd order q))) (rd order q)), false⟩, ⟨3, 1, A_5, (startsV V).length, c_6, ints .i64 (upd S (rd keys (rd order q)) ((rd S (rd keys (rd order q))) + 1)), false⟩, ⟨3, 1, (some ⟨g_4, 0, none⟩), ((k).toNat), ((k).toNat), ints .i64 V, false⟩, ⟨3, 1, A_1, ((k).toNat), c_2, ints .i64 (cntV keys k), false⟩]) rfl ?_
      refine wr_nil ?_
      refine w_reg ?_
      refine wr_y rfl (y_addI rfl rfl (by omega)) ?_
      refine wr_y rfl (y_move rfl) ?_
      refine wr_nil ?_
      exact ⟨q + 1, upd S (rd keys (rd order q)) ((rd S (rd keys (rd order q))) + 1), upd Lr (rd S (rd keys (rd order q))) (rd order q), ⟨(by omega), (by omega), (hP.step hko hq0 (by omega))⟩, (by omega), (Sub.cons rfl (Sub.cons rfl (Sub.cons rfl (Sub.cons rfl (Sub.cons rfl (Sub.cons rfl Sub.nil)))))), fun _ h => h⟩
    ·
      refine w_exit ?_
      refine w_seq ?_
      refine w_reg ?_
      refine wr_y rfl (y_move rfl) ?_
      refine wr_y rfl (y_assign rfl) ?_
      refine wr_y rfl (y_assign rfl) ?_
      refine wr_nil ?_
      refine w_retR (R1 := [⟨3, 1, (some ⟨g_7, 0, none⟩), order.length, order.length, ints .i64 Lr, false⟩]) (fun _ h => h.sel [0] (by decide) rfl) ?_
      refine ⟨_, _, rfl, rfl, ?_⟩
      have e := hP.done hko (by omega)
      subst e
      exact ⟨_, _, rfl, rfl⟩

end Go.Proofs.Ytdfcnalkdlifiaa
