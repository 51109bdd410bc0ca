/- Walks of Go functions, printed by a program of our own. -/
import Derived.Test.YtlagmdccneompaaI4
import Derived.Test.YtlagmdccneompaaQ27
namespace Go.Proofs.Ytlagmdccneompaa
open Go Go.Eng Go.Pure
set_option linter.unusedVariables false
/-! whorl/sais.piece -/
set_option maxRecDepth 100000 in
theorem piece_ct {w : World} {A_s : Option Addr} {n_s c_s : Nat} {s : List Int} {A_x : Option Addr} {n_x c_x : Nat} {x : List Int} {i : Int} (h_s : Rd w A_s n_s c_s 1 (ints .i64 s)) (h_x : Rd w A_x n_x c_x 1 (ints .i64 x)) (hi : 0 ≤ i ∧ i < s.length) (hx : x.length = s.length) (hlo : i < rd x i) (hhi : rd x i ≤ s.length) (hN : s.length ≤ 1000000) :
    Ct Try.prog 80 #[.slice A_s n_s c_s, .slice A_x n_x c_x, .int .i64 i] w.heap.size w [] (fun v R' => v = .slice (cutA A_s i.toNat c_s 1) ((min (rd x i + 1) ((s.length : Nat) : Int)).toNat - i.toNat) (c_s - i.toNat)) := by
  obtain rfl := h_s.lenI
  obtain rfl := h_x.lenI
  refine fn1 Try.func80 rfl rfl rfl ?_
  have m_s := h_s.max
  have m_x := h_x.max
  refine w_seq ?_
  refine w_reg ?_
  refine wr_y rfl (y_assign rfl) ?_
  refine wr_nil ?_
  refine w_seq ?_
  refine w_reg ?_
  refine wr_y rfl (y_move rfl) ?_
  refine wr_y rfl (y_move rfl) ?_
  refine wr_y rfl (y_move rfl) ?_
  refine wr_y rfl (y_move rfl) ?_
  refine wr_y rfl (y_index1 Try.underlying22 sz3 rfl rfl (h_x.c _) (by omega) (by omega)) ?_
  refine wr_y rfl (y_ldI Try.underlying3 rfl rfl (h_x.c _) (by omega) (by omega)) ?_
  refine wr_y rfl (y_addI rfl rfl (by omega)) ?_
  refine wr_y rfl (y_move rfl) ?_
  refine wr_y rfl (y_len Try.underlying22 rfl) ?_
  refine wr_y rfl (y_min rfl rfl) ?_
  refine wr_y rfl (y_slice Try.underlying22 sz3 rfl rfl rfl (h_s.c _) (by omega) (by omega) (by omega)) ?_
  refine wr_y rfl (y_assign rfl) ?_
  refine wr_nil ?_
  refine w_ret ?_
  refine ⟨_, rfl, ?_⟩
  rfl

/-! whorl/sais.named -/
set_option maxRecDepth 100000 in
set_option maxHeartbeats 1000000 in
theorem named_ct {w : World} {A_s : Option Addr} {n_s c_s : Nat} {s : List Int} {A_f : Option Addr} {n_f c_f : Nat} {f : List Int} {A_o : Option Addr} {n_o c_o : Nat} {o : List Int} (h_s : Rd w A_s n_s c_s 1 (ints .i64 s)) (h_f : Rd w A_f n_f c_f 1 (ints .i64 f)) (h_o : Rd w A_o n_o c_o 1 (ints .i64 o)) (hs : Nn s) (hf : f = fstL s) (hop : o.Perm (iota s.length)) (hoo : o.Pairwise (pcS s)) (hN : s.length ≤ 1000000) :
    Ct Try.prog 72 #[.slice A_s n_s c_s, .slice A_f n_f c_f, .slice A_o n_o c_o] w.heap.size w [] (fun v R' => ∃ (nx nm : List Int) (n la : Int) (A : Option Addr) (c : Nat), v = .tuple #[.slice A f.length c, .int .i64 (n + 1)] ∧ NxOk s nx (fstL s).length ∧ NamI s o nx s.length nm n la ∧ R' = [⟨3, 1, A, f.length, c, ints .i64 (f.map (rd nm)), false⟩]) := by
  obtain rfl := h_s.lenI
  obtain rfl := h_f.lenI
  obtain rfl := h_o.lenI
  refine fn2 Try.func72 rfl rfl rfl ?_
  have m_s := h_s.max
  have m_f := h_f.max
  have m_o := h_o.max
  have hol : o.length = s.length := by rw [hop.length_eq, iota_len]
  have hfl : f.length ≤ s.length := by rw [hf]; exact fstL_len
  refine w_seq ?_
  refine w_reg ?_
  refine wr_y rfl (y_assign rfl) ?_
  refine wr_y rfl (y_assign rfl) ?_
  refine wr_nil ?_
  refine w_seq ?_
  refine w_reg ?_
  refine wr_y rfl (y_move rfl) ?_
  refine wr_y rfl (y_len Try.underlying22 rfl) ?_
  refine wr_a rfl (a_makeN Try.underlying22 zb3 rfl rfl (by omega) (by omega) (by omega)) ?_
  rintro _ _ ⟨g_1, rfl, rfl⟩
  refine wr_rows (R1 := [⟨3, 1, (some ⟨g_1, 0, none⟩), s.length, s.length, ints .i64 (List.replicate s.length (0 : Int)), false⟩]) rfl ?_
  refine wr_as (v := .slice (some ⟨g_1, 0, none⟩) s.length s.length) rfl ?_
  refine wr_y rfl (y_assign rfl) ?_
  refine wr_nil ?_
  refine w_seq ?_
  refine w_seq ?_
  refine w_reg ?_
  refine wr_y rfl (y_move rfl) ?_
  refine wr_y rfl (y_len Try.underlying22 rfl) ?_
  refine wr_y rfl (y_move rfl) ?_
  refine wr_nil ?_
  refine w_block ?_
  refine w_loop2 (fun (i : Int) (V : List Int) => [(0, .slice A_s s.length c_s), (1, .slice A_f f.length c_f), (2, .slice A_o o.length c_o), (8, .slice (some ⟨g_1, 0, none⟩) s.length s.length), (22, .slice A_f f.length c_f), (23, .int .i64 ((f.length : Nat) : Int)), (24, .int .i64 i)]) (fun (i : Int) (V : List Int) => [⟨3, 1, (some ⟨g_1, 0, none⟩), s.length, s.length, ints .i64 V, false⟩]) (fun (i : Int) (V : List Int) => (0 ≤ i) ∧ (i ≤ f.length) ∧ (NxOk s V i)) (fun (i : Int) (V : List Int) => (f.length - i).toNat) ?_ ?_
  ·
    exact ⟨0, List.replicate s.length (0 : Int), ⟨(by omega), (by omega), (nx_zero)⟩, (Sub.cons rfl (Sub.cons rfl (Sub.cons rfl (Sub.cons rfl (Sub.cons rfl (Sub.cons rfl (Sub.cons rfl Sub.nil))))))), fun _ h => h⟩
  intro i V ⟨hi0, hi1, hV⟩
  have hVl := hV.len
  have hfi : i < f.length → 0 ≤ rd f i ∧ rd f i < s.length := fun h => by subst hf; exact (fstL_at hi0 h).1
  refine w_seq ?_
  refine w_reg ?_
  refine wr_y rfl (y_lt rfl rfl) ?_
  refine wr_nil ?_
  refine w_seq ?_
  refine w_if rfl (fun hc1 => ?_) (fun hc1 => ?_)
  ·
    have hfi2 := hfi (by omega)
    refine w_skip ?_
    refine w_seq ?_
    refine w_block ?_
    refine w_seq ?_
    refine w_reg ?_
    refine wr_y rfl (y_move rfl) ?_
    refine wr_y rfl (y_index1 Try.underlying22 sz3 rfl rfl (h_f.c _) (by omega) (by omega)) ?_
    refine wr_y rfl (y_ldI Try.underlying3 rfl rfl (h_f.c _) (by omega) (by omega)) ?_
    refine wr_y rfl (y_assign rfl) ?_
    refine wr_y rfl (y_assign rfl) ?_
    refine wr_nil ?_
    refine w_seq ?_
    refine w_reg ?_
    refine wr_y rfl (y_move rfl) ?_
    refine wr_y rfl (y_move rfl) ?_
    refine wr_y rfl (y_move rfl) ?_
    refine wr_y rfl (y_len Try.underlying22 rfl) ?_
    refine wr_y rfl (y_index1 Try.underlying22 sz3 rfl rfl (rdr 0 rfl) (by omega) (by omega)) ?_
    refine wr_n (a_storeI 0 rfl sz3 rfl rfl (by omega) (by omega)) ?_
    rintro _ _ rfl
    refine wr_rows (R1 := [⟨3, 1, (some ⟨g_1, 0, none⟩), s.length, s.length, ints .i64 (upd V (rd f i) ((s.length : Nat) : Int)), false⟩]) rfl ?_
    refine wr_nil ?_
    refine w_seq ?_
    refine w_reg ?_
    refine wr_y rfl (y_move rfl) ?_
    refine wr_y rfl (y_addI rfl rfl (by omega)) ?_
    refine wr_y rfl (y_move rfl) ?_
    refine wr_y rfl (y_len Try.underlying22 rfl) ?_
    refine wr_y rfl (y_lt rfl rfl) ?_
    refine wr_nil ?_
    refine w_if rfl (fun hc2 => ?_) (fun hc2 => ?_)
    ·
      refine w_reg ?_
      refine wr_y rfl (y_move rfl) ?_
      refine wr_y rfl (y_move rfl) ?_
      refine wr_y rfl (y_move rfl) ?_
      refine wr_y rfl (y_move rfl) ?_
      refine wr_y rfl (y_addI rfl rfl (by omega)) ?_
      refine wr_y rfl (y_index1 Try.underlying22 sz3 rfl rfl (h_f.c _) (by omega) (by omega)) ?_
      refine wr_y rfl (y_ldI Try.underlying3 rfl rfl (h_f.c _) (by omega) (by omega)) ?_
      refine wr_y rfl (y_index1 Try.underlying22 sz3 rfl rfl (rdr 0 rfl) (by omega) (by omega)) ?_
      refine wr_n (a_storeI 0 rfl sz3 rfl rfl (by omega) (by omega)) ?_
      rintro _ _ rfl
      refine wr_rows (R1 := [⟨3, 1, (some ⟨g_1, 0, none⟩), s.length, s.length, ints .i64 (upd (upd V (rd f i) ((s.length : Nat) : Int)) (rd f i) (rd f (i + 1))), false⟩]) rfl ?_
      refine wr_nil ?_
      refine w_reg ?_
      refine wr_y rfl (y_addI rfl rfl (by omega)) ?_
      refine wr_y rfl (y_move rfl) ?_
      refine wr_nil ?_
      exact ⟨i + 1, upd (upd V (rd f i) ((s.length : Nat) : Int)) (rd f i) (rd f (i + 1)), ⟨(by omega), (by omega), (by subst hf; exact hV.step2 hi0 (by omega) (by omega))⟩, (by omega), (Sub.cons rfl (Sub.cons rfl (Sub.cons rfl (Sub.cons rfl (Sub.cons rfl (Sub.cons rfl (Sub.cons rfl Sub.nil))))))), fun _ h => h⟩
    ·
      refine w_skip ?_
      refine w_reg ?_
      refine wr_y rfl (y_addI rfl rfl (by omega)) ?_
      refine wr_y rfl (y_move rfl) ?_
      refine wr_nil ?_
      exact ⟨i + 1, upd V (rd f i) ((s.length : Nat) : Int), ⟨(by omega), (by omega), (by subst hf; exact hV.step1 hi0 (by omega) (by omega))⟩, (by omega), (Sub.cons rfl (Sub.cons rfl (Sub.cons rfl (Sub.cons rfl (Sub.cons rfl (Sub.cons rfl (Sub.cons rfl Sub.nil))))))), fun _ h => h⟩
  ·
    have hV2 : NxOk s V (fstL s).length := by have e : i = (fstL s).length := (by rw [← hf]; omega); rw [← e]; exact hV
    refine w_exit ?_
    refine w_seq ?_
    refine w_reg ?_
    refine wr_y rfl (y_move rfl) ?_
    refine wr_y rfl (y_len Try.underlying22 rfl) ?_
    refine wr_a rfl (a_makeN Try.underlying22 zb3 rfl rfl (by omega) (by omega) (by omega)) ?_
    rintro _ _ ⟨g_2, rfl, rfl⟩
    refine wr_rows (R1 := [⟨3, 1, (some ⟨g_2, 0, none⟩), s.length, s.length, ints .i64 (List.replicate s.length (0 : Int)), false⟩, ⟨3, 1, (some ⟨g_1, 0, none⟩), s.length, s.length, ints .i64 V, false⟩]) rfl ?_
    refine wr_as (v := .slice (some ⟨g_2, 0, none⟩) s.length s.length) rfl ?_
    refine wr_y rfl (y_assign rfl) ?_
    refine wr_nil ?_
    refine w_seq ?_
    refine w_reg ?_
    refine wr_y rfl (y_assign rfl) ?_
    refine wr_y rfl (y_assign rfl) ?_
    refine wr_nil ?_
    refine w_seq ?_
    refine w_seq ?_
    refine w_reg ?_
    refine wr_y rfl (y_move rfl) ?_
    refine wr_y rfl (y_len Try.underlying22 rfl) ?_
    refine wr_y rfl (y_move rfl) ?_
    refine wr_nil ?_
    refine w_block ?_
    refine w_loop4 (fun (q : Int) (U : List Int) (n : Int) (la : Int) => [(0, .slice A_s s.length c_s), (1, .slice A_f f.length c_f), (8, .slice (some ⟨g_1, 0, none⟩) s.length s.length), (11, .slice (some ⟨g_2, 0, none⟩) s.length s.length), (12, .int .i64 n), (13, .int .i64 la), (51, .slice A_o o.length c_o), (52, .int .i64 ((o.length : Nat) : Int)), (53, .int .i64 q)]) (fun (q : Int) (U : List Int) (n : Int) (la : Int) => [⟨3, 1, (some ⟨g_2, 0, none⟩), s.length, s.length, ints .i64 U, false⟩, ⟨3, 1, (some ⟨g_1, 0, none⟩), s.length, s.length, ints .i64 V, false⟩]) (fun (q : Int) (U : List Int) (n : Int) (la : Int) => (0 ≤ q) ∧ (q ≤ o.length) ∧ (NamI s o V q U n la)) (fun (q : Int) (U : List Int) (n : Int) (la : Int) => (o.length - q).toNat) ?_ ?_
    ·
      exact ⟨0, List.replicate s.length (0 : Int), 0, -1, ⟨(by omega), (by omega), (nam_zero)⟩, (Sub.cons rfl (Sub.cons rfl (Sub.cons rfl (Sub.cons rfl (Sub.cons rfl (Sub.cons rfl (Sub.cons rfl (Sub.cons rfl (Sub.cons rfl Sub.nil))))))))), fun _ h => h⟩
    intro q U n la ⟨hq0, hq1, hM⟩
    have hUl := hM.len
    have hMb := hM.bd
    have hla := hM.last_in hop (by omega)
    have hlx : 0 ≤ la → la < s.length ∧ la < rd V la ∧ rd V la ≤ s.length := fun h => by
      rcases hla with e | ⟨e, e2⟩
      · omega
      · have g := hV2.nx e.1 e.2 e2
        exact ⟨e.2, g.gt, g.le⟩
    have hoq : q < o.length → 0 ≤ rd o q ∧ rd o q < s.length := fun h => mem_iota.1 (hop.subset (rd_mem (L := o) hq0 h))
    have hoz : q < o.length → (rd V (rd o q) = 0 ↔ fstB s (rd o q) = false) := fun h => hV2.zero (hoq h).1 (hoq h).2
    refine w_seq ?_
    refine w_reg ?_
    refine wr_y rfl (y_lt rfl rfl) ?_
    refine wr_nil ?_
    refine w_seq ?_
    refine w_if rfl (fun hc3 => ?_) (fun hc3 => ?_)
    ·
      have hoq2 := hoq (by omega)
      have hoz2 := hoz (by omega)
      refine w_skip ?_
      refine w_seq ?_
      refine w_block ?_
      refine w_seq ?_
      refine w_reg ?_
      refine wr_y rfl (y_index1 Try.underlying22 sz3 rfl rfl (h_o.c _) (by omega) (by omega)) ?_
      refine wr_y rfl (y_ldI Try.underlying3 rfl rfl (h_o.c _) (by omega) (by omega)) ?_
      refine wr_y rfl (y_assign rfl) ?_
      refine wr_nil ?_
      refine w_seq ?_
      refine w_seq ?_
      refine w_reg ?_
      refine wr_y rfl (y_move rfl) ?_
      refine wr_y rfl (y_move rfl) ?_
      refine wr_y rfl (y_index1 Try.underlying22 sz3 rfl rfl (rdr 1 rfl) (by omega) (by omega)) ?_
      refine wr_y rfl (y_ldI Try.underlying3 rfl rfl (rdr 1 rfl) (by omega) (by omega)) ?_
      refine wr_y rfl (y_eq rfl rfl) ?_
      refine wr_nil ?_
      refine w_if rfl (fun hc4 => ?_) (fun hc4 => ?_)
      ·
        have hfq := hoz2.1 hc4
        refine w_exit ?_
        refine w_reg ?_
        refine wr_y rfl (y_addI rfl rfl (by omega)) ?_
        refine wr_y rfl (y_move rfl) ?_
        refine wr_nil ?_
        exact ⟨q + 1, U, n, la, ⟨(by omega), (by omega), (hM.skip hfq)⟩, (by omega), (Sub.cons rfl (Sub.cons rfl (Sub.cons rfl (Sub.cons rfl (Sub.cons rfl (Sub.cons rfl (Sub.cons rfl (Sub.cons rfl (Sub.cons rfl Sub.nil))))))))), fun _ h => h⟩
      ·
        have hfq : fstB s (rd o q) = true := by
          cases e : fstB s (rd o q) with
          | true => rfl
          | false => exact absurd (hoz2.2 e) hc4
        have hgx := hV2.nx hoq2.1 hoq2.2 hfq
        have hg1 := hgx.gt
        have hg2 := hgx.le
        have hlm : -1 ≤ la := by omega
        refine w_skip ?_
        refine w_seq ?_
        refine w_seq ?_
        refine w_reg ?_
        refine wr_y rfl (y_move rfl) ?_
        refine wr_y rfl (y_ge rfl rfl) ?_
        refine wr_y rfl (y_move rfl) ?_
        refine wr_mid 29 [(0, .slice A_s s.length c_s), (1, .slice A_f f.length c_f), (8, .slice (some ⟨g_1, 0, none⟩) s.length s.length), (11, .slice (some ⟨g_2, 0, none⟩) s.length s.length), (12, .int .i64 n), (15, .int .i64 (rd o q)), (51, .slice A_o o.length c_o), (52, .int .i64 ((o.length : Nat) : Int)), (53, .int .i64 q), (93, .bool (decide ((0 ≤ la) ∧ ((((rd V (rd o q)) = ((s.length : Nat) : Int)) ∨ ((rd V la) = ((s.length : Nat) : Int))) ∨ (¬ ((((s).drop (la).toNat).take ((min (rd V la + 1) ((s.length : Nat) : Int)).toNat - la.toNat)) = (((s).drop (rd o q).toNat).take ((min (rd V (rd o q) + 1) ((s.length : Nat) : Int)).toNat - (rd o q).toNat))))))))] [⟨3, 1, (some ⟨g_2, 0, none⟩), s.length, s.length, ints .i64 U, false⟩, ⟨3, 1, (some ⟨g_1, 0, none⟩), s.length, s.length, ints .i64 V, false⟩] ?_ ?_
        ·
          refine wr_case 64 rfl (fun hc5 => ?_) (fun hc5 => ?_)
          ·
            refine wr_yes rfl rfl ?_
            refine wr_y rfl (y_move rfl) ?_
            refine wr_yes rfl rfl ?_
            refine wr_y rfl (y_move rfl) ?_
            refine wr_yes rfl rfl ?_
            refine wr_y rfl (y_index1 Try.underlying22 sz3 rfl rfl (rdr 1 rfl) (by omega) (by omega)) ?_
            refine wr_yes rfl rfl ?_
            refine wr_y rfl (y_ldI Try.underlying3 rfl rfl (rdr 1 rfl) (by omega) (by omega)) ?_
            refine wr_yes rfl rfl ?_
            refine wr_y rfl (y_move rfl) ?_
            refine wr_yes rfl rfl ?_
            refine wr_y rfl (y_len Try.underlying22 rfl) ?_
            refine wr_yes rfl rfl ?_
            refine wr_y rfl (y_eq rfl rfl) ?_
            refine wr_yes rfl rfl ?_
            refine wr_y rfl (y_move rfl) ?_
            refine wr_mid 8 [(0, .slice A_s s.length c_s), (1, .slice A_f f.length c_f), (8, .slice (some ⟨g_1, 0, none⟩) s.length s.length), (11, .slice (some ⟨g_2, 0, none⟩) s.length s.length), (12, .int .i64 n), (13, .int .i64 la), (15, .int .i64 (rd o q)), (51, .slice A_o o.length c_o), (52, .int .i64 ((o.length : Nat) : Int)), (53, .int .i64 q), (64, .bool true), (80, .bool (decide (((rd V (rd o q)) = ((s.length : Nat) : Int)) ∨ ((rd V la) = ((s.length : Nat) : Int)))))] [⟨3, 1, (some ⟨g_2, 0, none⟩), s.length, s.length, ints .i64 U, false⟩, ⟨3, 1, (some ⟨g_1, 0, none⟩), s.length, s.length, ints .i64 V, false⟩] ?_ ?_
            ·
              refine wr_case 72 rfl (fun hc6 => ?_) (fun hc6 => ?_)
              ·
                refine wr_no rfl rfl rfl rfl ?_
                refine wr_no rfl rfl rfl rfl ?_
                refine wr_no rfl rfl rfl rfl ?_
                refine wr_no rfl rfl rfl rfl ?_
                refine wr_no rfl rfl rfl rfl ?_
                refine wr_no rfl rfl rfl rfl ?_
                refine wr_no rfl rfl rfl rfl ?_
                refine wr_yes rfl rfl ?_
                refine wr_y rfl (y_pickT rfl rfl) ?_
                refine wr_nil ?_
                exact ⟨(Sub.cons rfl (Sub.cons rfl (Sub.cons rfl (Sub.cons rfl (Sub.cons rfl (Sub.cons rfl (Sub.cons rfl (Sub.cons rfl (Sub.cons rfl (Sub.cons rfl (Sub.cons rfl (Sub.to rfl (mb_t (by first | omega | exact ⟨fun h => ⟨(by assumption), h⟩, fun h => h.2⟩ | simp [*])) Sub.nil)))))))))))), fun _ h => h⟩
              ·
                refine wr_yes rfl rfl ?_
                refine wr_y rfl (y_move rfl) ?_
                refine wr_yes rfl rfl ?_
                refine wr_y rfl (y_move rfl) ?_
                refine wr_yes rfl rfl ?_
                refine wr_y rfl (y_index1 Try.underlying22 sz3 rfl rfl (rdr 1 rfl) (by omega) (by omega)) ?_
                refine wr_yes rfl rfl ?_
                refine wr_y rfl (y_ldI Try.underlying3 rfl rfl (rdr 1 rfl) (by omega) (by omega)) ?_
                refine wr_yes rfl rfl ?_
                refine wr_y rfl (y_move rfl) ?_
                refine wr_yes rfl rfl ?_
                refine wr_y rfl (y_len Try.underlying22 rfl) ?_
                refine wr_yes rfl rfl ?_
                refine wr_y rfl (y_eq rfl rfl) ?_
                refine wr_yes rfl rfl ?_
                refine wr_y rfl (y_pickF rfl rfl) ?_
                refine wr_nil ?_
                exact ⟨(Sub.cons rfl (Sub.cons rfl (Sub.cons rfl (Sub.cons rfl (Sub.cons rfl (Sub.cons rfl (Sub.cons rfl (Sub.cons rfl (Sub.cons rfl (Sub.cons rfl (Sub.cons rfl (Sub.to rfl (mb (by first | omega | exact ⟨fun h => ⟨(by assumption), h⟩, fun h => h.2⟩ | simp [*])) Sub.nil)))))))))))), fun _ h => h⟩
            refine wr_yes rfl rfl ?_
            refine wr_y rfl (y_move rfl) ?_
            refine wr_mid 11 [(0, .slice A_s s.length c_s), (1, .slice A_f f.length c_f), (8, .slice (some ⟨g_1, 0, none⟩) s.length s.length), (11, .slice (some ⟨g_2, 0, none⟩) s.length s.length), (12, .int .i64 n), (15, .int .i64 (rd o q)), (51, .slice A_o o.length c_o), (52, .int .i64 ((o.length : Nat) : Int)), (53, .int .i64 q), (64, .bool true), (92, .bool (decide ((((rd V (rd o q)) = ((s.length : Nat) : Int)) ∨ ((rd V la) = ((s.length : Nat) : Int))) ∨ (¬ ((((s).drop (la).toNat).take ((min (rd V la + 1) ((s.length : Nat) : Int)).toNat - la.toNat)) = (((s).drop (rd o q).toNat).take ((min (rd V (rd o q) + 1) ((s.length : Nat) : Int)).toNat - (rd o q).toNat)))))))] [⟨3, 1, (some ⟨g_2, 0, none⟩), s.length, s.length, ints .i64 U, false⟩, ⟨3, 1, (some ⟨g_1, 0, none⟩), s.length, s.length, ints .i64 V, false⟩] ?_ ?_
            ·
              refine wr_case 81 rfl (fun hc7 => ?_) (fun hc7 => ?_)
              ·
                refine wr_no rfl rfl rfl rfl ?_
                refine wr_no rfl rfl rfl rfl ?_
                refine wr_no rfl rfl rfl rfl ?_
                refine wr_no rfl rfl rfl rfl ?_
                refine wr_no rfl rfl rfl rfl ?_
                refine wr_no rfl rfl rfl rfl ?_
                refine wr_no rfl rfl rfl rfl ?_
                refine wr_no rfl rfl rfl rfl ?_
                refine wr_no rfl rfl rfl rfl ?_
                refine wr_no rfl rfl rfl rfl ?_
                refine wr_yes rfl rfl ?_
                refine wr_y rfl (y_pickT rfl rfl) ?_
                refine wr_nil ?_
                exact ⟨(Sub.cons rfl (Sub.cons rfl (Sub.cons rfl (Sub.cons rfl (Sub.cons rfl (Sub.cons rfl (Sub.cons rfl (Sub.cons rfl (Sub.cons rfl (Sub.cons rfl (Sub.to rfl (mb_t (by first | omega | exact ⟨fun h => ⟨(by assumption), h⟩, fun h => h.2⟩ | simp [*])) Sub.nil))))))))))), fun _ h => h⟩
              ·
                refine wr_yes rfl rfl ?_
                refine wr_y rfl (y_move rfl) ?_
                refine wr_yes rfl rfl ?_
                refine wr_y rfl (y_move rfl) ?_
                refine wr_yes rfl rfl ?_
                refine wr_y rfl (y_move rfl) ?_
                refine wr_yes rfl rfl ?_
                refine wr_a rfl (a_callF en80 rfl (Ct.quiet (fun w hw => piece_ct ((h_s.c _) w hw) ((rdr 1 rfl) w hw) (by first | assumption | omega | decide) (by first | assumption | omega | decide) (by first | assumption | omega | decide) (by first | assumption | omega | decide) (by first | assumption | omega | decide)))) ?_
                rintro _ _ ⟨rfl, rfl⟩
                refine wr_yes rfl rfl ?_
                refine wr_y rfl (y_move rfl) ?_
                refine wr_yes rfl rfl ?_
                refine wr_y rfl (y_move rfl) ?_
                refine wr_yes rfl rfl ?_
                refine wr_y rfl (y_move rfl) ?_
                refine wr_yes rfl rfl ?_
                refine wr_a rfl (a_callF en80 rfl (Ct.quiet (fun w hw => piece_ct ((h_s.c _) w hw) ((rdr 1 rfl) w hw) (by first | assumption | omega | decide) (by first | assumption | omega | decide) (by first | assumption | omega | decide) (by first | assumption | omega | decide) (by first | assumption | omega | decide)))) ?_
                rintro _ _ ⟨rfl, rfl⟩
                refine wr_yes rfl rfl ?_
                refine wr_a rfl (a_callF en47 rfl (Ct.quiet (fun w hw => equalI_ct ((RdC.cutI (h_s.c _) (by omega) (by omega)) w hw) ((RdC.cutI (h_s.c _) (by omega) (by omega)) w hw) (by rw [List.length_take, List.length_drop]; omega)))) ?_
                rintro _ _ ⟨rfl, rfl⟩
                refine wr_yes rfl rfl ?_
                refine wr_y rfl (y_notD rfl) ?_
                refine wr_yes rfl rfl ?_
                refine wr_y rfl (y_pickF rfl rfl) ?_
                refine wr_nil ?_
                exact ⟨(Sub.cons rfl (Sub.cons rfl (Sub.cons rfl (Sub.cons rfl (Sub.cons rfl (Sub.cons rfl (Sub.cons rfl (Sub.cons rfl (Sub.cons rfl (Sub.cons rfl (Sub.to rfl (mb (by first | omega | exact ⟨fun h => ⟨(by assumption), h⟩, fun h => h.2⟩ | simp [*])) Sub.nil))))))))))), fun _ h => h⟩
            refine wr_y rfl (y_pickT rfl rfl) ?_
            refine wr_nil ?_
            exact ⟨(Sub.cons rfl (Sub.cons rfl (Sub.cons rfl (Sub.cons rfl (Sub.cons rfl (Sub.cons rfl (Sub.cons rfl (Sub.cons rfl (Sub.cons rfl (Sub.to rfl (mb (by first | omega | exact ⟨fun h => ⟨(by assumption), h⟩, fun h => h.2⟩ | simp [*])) Sub.nil)))))))))), fun _ h => h⟩
          ·
            refine wr_no rfl rfl rfl rfl ?_
            refine wr_no rfl rfl rfl rfl ?_
            refine wr_no rfl rfl rfl rfl ?_
            refine wr_no rfl rfl rfl rfl ?_
            refine wr_no rfl rfl rfl rfl ?_
            refine wr_no rfl rfl rfl rfl ?_
            refine wr_no rfl rfl rfl rfl ?_
            refine wr_no rfl rfl rfl rfl ?_
            refine wr_nou rfl rfl rfl ?_
            refine wr_nou rfl rfl rfl ?_
            refine wr_nou rfl rfl rfl ?_
            refine wr_nou rfl rfl rfl ?_
            refine wr_nou rfl rfl rfl ?_
            refine wr_nou rfl rfl rfl ?_
            refine wr_nou rfl rfl rfl ?_
            refine wr_no rfl rfl rfl rfl ?_
            refine wr_no rfl rfl rfl rfl ?_
            refine wr_nou rfl rfl rfl ?_
            refine wr_nou rfl rfl rfl ?_
            refine wr_nou rfl rfl rfl ?_
            refine wr_nou rfl rfl rfl ?_
            refine wr_nou rfl rfl rfl ?_
            refine wr_nou rfl rfl rfl ?_
            refine wr_nou rfl rfl rfl ?_
            refine wr_nou rfl rfl rfl ?_
            refine wr_nou rfl rfl rfl ?_
            refine wr_nou rfl rfl rfl ?_
            refine wr_no rfl rfl rfl rfl ?_
            refine wr_y rfl (y_pickF rfl rfl) ?_
            refine wr_nil ?_
            exact ⟨(Sub.cons rfl (Sub.cons rfl (Sub.cons rfl (Sub.cons rfl (Sub.cons rfl (Sub.cons rfl (Sub.cons rfl (Sub.cons rfl (Sub.cons rfl (Sub.to rfl (mb_f (by first | omega | exact ⟨fun h => ⟨(by assumption), h⟩, fun h => h.2⟩ | simp [*])) Sub.nil)))))))))), fun _ h => h⟩
        refine wr_nil ?_
        refine w_if rfl (fun hc8 => ?_) (fun hc8 => ?_)
        ·
          have hst := name_new (n := n) hlx hoq2.1 hg1 hg2 hc8
          refine w_reg ?_
          refine wr_y rfl (y_move rfl) ?_
          refine wr_y rfl (y_addI rfl rfl (by omega)) ?_
          refine wr_y rfl (y_assign rfl) ?_
          refine wr_nil ?_
          refine w_reg ?_
          refine wr_y rfl (y_move rfl) ?_
          refine wr_y rfl (y_move rfl) ?_
          refine wr_y rfl (y_move rfl) ?_
          refine wr_y rfl (y_move rfl) ?_
          refine wr_y rfl (y_index1 Try.underlying22 sz3 rfl rfl (rdr 0 rfl) (by omega) (by omega)) ?_
          refine wr_n (a_storeI 0 rfl sz3 rfl rfl (by omega) (by omega)) ?_
          rintro _ _ rfl
          refine wr_rows (R1 := [⟨3, 1, (some ⟨g_2, 0, none⟩), s.length, s.length, ints .i64 (upd U (rd o q) (n + 1)), false⟩, ⟨3, 1, (some ⟨g_1, 0, none⟩), s.length, s.length, ints .i64 V, false⟩]) rfl ?_
          refine wr_y rfl (y_assign rfl) ?_
          refine wr_nil ?_
          refine w_reg ?_
          refine wr_y rfl (y_addI rfl rfl (by omega)) ?_
          refine wr_y rfl (y_move rfl) ?_
          refine wr_nil ?_
          exact ⟨q + 1, upd U (rd o q) (n + 1), n + 1, rd o q, ⟨(by omega), (by omega), (hM.step hs hop hoo hV2 hq0 (by omega) hfq hst)⟩, (by omega), (Sub.cons rfl (Sub.cons rfl (Sub.cons rfl (Sub.cons rfl (Sub.cons rfl (Sub.cons rfl (Sub.cons rfl (Sub.cons rfl (Sub.cons rfl Sub.nil))))))))), fun _ h => h⟩
        ·
          have hst := name_old (n := n) hlm hlx hoq2.1 hg1 hg2 hc8
          refine w_skip ?_
          refine w_reg ?_
          refine wr_y rfl (y_move rfl) ?_
          refine wr_y rfl (y_move rfl) ?_
          refine wr_y rfl (y_move rfl) ?_
          refine wr_y rfl (y_move rfl) ?_
          refine wr_y rfl (y_index1 Try.underlying22 sz3 rfl rfl (rdr 0 rfl) (by omega) (by omega)) ?_
          refine wr_n (a_storeI 0 rfl sz3 rfl rfl (by omega) (by omega)) ?_
          rintro _ _ rfl
          refine wr_rows (R1 := [⟨3, 1, (some ⟨g_2, 0, none⟩), s.length, s.length, ints .i64 (upd U (rd o q) n), false⟩, ⟨3, 1, (some ⟨g_1, 0, none⟩), s.length, s.length, ints .i64 V, false⟩]) rfl ?_
          refine wr_y rfl (y_assign rfl) ?_
          refine wr_nil ?_
          refine w_reg ?_
          refine wr_y rfl (y_addI rfl rfl (by omega)) ?_
          refine wr_y rfl (y_move rfl) ?_
          refine wr_nil ?_
          exact ⟨q + 1, upd U (rd o q) n, n, rd o q, ⟨(by omega), (by omega), (hM.step hs hop hoo hV2 hq0 (by omega) hfq hst)⟩, (by omega), (Sub.cons rfl (Sub.cons rfl (Sub.cons rfl (Sub.cons rfl (Sub.cons rfl (Sub.cons rfl (Sub.cons rfl (Sub.cons rfl (Sub.cons rfl Sub.nil))))))))), fun _ h => h⟩
    ·
      refine w_exit ?_
      refine w_seq ?_
      refine w_reg ?_
      refine wr_sub (R1 := [⟨3, 1, none, 0, 0, ints .i64 ([]), false⟩, ⟨3, 1, (some ⟨g_2, 0, none⟩), s.length, s.length, ints .i64 U, false⟩, ⟨3, 1, (some ⟨g_1, 0, none⟩), s.length, s.length, ints .i64 V, false⟩]) (Sub.refl _) (fun _ h => h.nil 3 1) ?_
      refine wr_y rfl (y_assign rfl) ?_
      refine wr_nil ?_
      refine w_seq ?_
      refine w_seq ?_
      refine w_reg ?_
      refine wr_y rfl (y_move rfl) ?_
      refine wr_y rfl (y_len Try.underlying22 rfl) ?_
      refine wr_y rfl (y_move rfl) ?_
      refine wr_nil ?_
      refine w_block ?_
      refine w_loop5 (fun (A1 : Option Addr) (n1 : Nat) (c1 : Nat) (acc : List Int) (j : Int) => [(11, .slice (some ⟨g_2, 0, none⟩) s.length s.length), (12, .int .i64 n), (16, .slice A1 n1 c1), (102, .slice A_f f.length c_f), (103, .int .i64 ((f.length : Nat) : Int)), (104, .int .i64 j)]) (fun (A1 : Option Addr) (n1 : Nat) (c1 : Nat) (acc : List Int) (j : Int) => [⟨3, 1, A1, n1, c1, ints .i64 acc, false⟩, ⟨3, 1, (some ⟨g_2, 0, none⟩), s.length, s.length, ints .i64 U, false⟩, ⟨3, 1, (some ⟨g_1, 0, none⟩), s.length, s.length, ints .i64 V, false⟩]) (fun (A1 : Option Addr) (n1 : Nat) (c1 : Nat) (acc : List Int) (j : Int) => (n1 = acc.length) ∧ (0 ≤ j) ∧ (j ≤ f.length) ∧ (acc = (f.take j.toNat).map (rd U))) (fun (A1 : Option Addr) (n1 : Nat) (c1 : Nat) (acc : List Int) (j : Int) => (f.length - j).toNat) ?_ ?_
      ·
        exact ⟨none, 0, 0, [], 0, ⟨(rfl), (by omega), (by omega), (rfl)⟩, (Sub.cons rfl (Sub.cons rfl (Sub.cons rfl (Sub.cons rfl (Sub.cons rfl (Sub.cons rfl Sub.nil)))))), fun _ h => h⟩
      intro A1 n1 c1 acc j ⟨hn1, hj0, hj1, hacc⟩
      have hal := congrArg List.length hacc
      rw [List.length_map, List.length_take] at hal
      have hfj : j < f.length → 0 ≤ rd f j ∧ rd f j < s.length := fun h => by subst hf; exact (fstL_at hj0 h).1
      refine w_seq ?_
      refine w_reg ?_
      refine wr_y rfl (y_lt rfl rfl) ?_
      refine wr_nil ?_
      refine w_seq ?_
      refine w_if rfl (fun hc9 => ?_) (fun hc9 => ?_)
      ·
        refine w_skip ?_
        refine w_seq ?_
        refine w_block ?_
        refine w_seq ?_
        refine w_reg ?_
        refine wr_y rfl (y_index1 Try.underlying22 sz3 rfl rfl (h_f.c _) (by omega) (by omega)) ?_
        refine wr_y rfl (y_ldI Try.underlying3 rfl rfl (h_f.c _) (by omega) (by omega)) ?_
        refine wr_y rfl (y_assign rfl) ?_
        refine wr_nil ?_
        refine w_reg ?_
        refine wr_y rfl (y_move rfl) ?_
        refine wr_y rfl (y_move rfl) ?_
        refine wr_y rfl (y_move rfl) ?_
        refine wr_y rfl (y_index1 Try.underlying22 sz3 rfl rfl (rdr 1 rfl) (by omega) (by omega)) ?_
        refine wr_y rfl (y_ldI Try.underlying3 rfl rfl (rdr 1 rfl) (by omega) (by omega)) ?_
        refine wr_a rfl (a_litI .i64 [rd U (rd f j)] Try.underlying22 zs3 rfl rfl rfl) ?_
        rintro _ _ ⟨g_4, rfl, rfl⟩
        refine wr_a rfl (a_appendI 1 rfl Try.underlying22 zb3 rfl rfl rfl (rdr 0 rfl) (by omega)) ?_
        rintro _ _ ⟨A_5, c_6, rfl, rfl⟩
        refine wr_rows (R1 := [⟨3, 1, (some ⟨g_4, 0, none⟩), 1, 1, ints .i64 ([rd U (rd f j)]), false⟩, ⟨3, 1, A_5, (n1 + 1), c_6, ints .i64 (acc ++ ([rd U (rd f j)])), false⟩, ⟨3, 1, (some ⟨g_2, 0, none⟩), s.length, s.length, ints .i64 U, false⟩, ⟨3, 1, (some ⟨g_1, 0, none⟩), s.length, s.length, ints .i64 V, false⟩]) rfl ?_
        refine wr_as (v := .slice A_5 (n1 + 1) c_6) rfl ?_
        refine wr_y rfl (y_assign rfl) ?_
        refine wr_nil ?_
        refine w_reg ?_
        refine wr_y rfl (y_addI rfl rfl (by omega)) ?_
        refine wr_y rfl (y_move rfl) ?_
        refine wr_nil ?_
        exact ⟨A_5, n1 + 1, c_6, acc ++ ([rd U (rd f j)]), j + 1, ⟨(by rw [List.length_append, hn1]; try rfl), (by omega), (by omega), (by rw [take_rd hj0 (by omega), List.map_append, hacc]; rfl)⟩, (by omega), (Sub.cons rfl (Sub.cons rfl (Sub.cons rfl (Sub.cons rfl (Sub.cons rfl (Sub.cons rfl Sub.nil)))))), fun _ h => h.sel [1, 2, 3] (by decide) rfl⟩
      ·
        refine w_exit ?_
        refine w_seq ?_
        refine w_reg ?_
        refine wr_y rfl (y_move rfl) ?_
        refine wr_y rfl (y_move rfl) ?_
        refine wr_y rfl (y_addI rfl rfl (by omega)) ?_
        refine wr_y rfl (y_assign rfl) ?_
        refine wr_y rfl (y_assign rfl) ?_
        refine wr_nil ?_
        refine w_retR (R1 := [⟨3, 1, A1, n1, c1, ints .i64 acc, false⟩]) (fun _ h => h.sel [0] (by decide) rfl) ?_
        refine ⟨_, _, rfl, rfl, ?_⟩
        have hM2 : NamI s o V s.length U n la := by have e : q = s.length := (by omega); rw [← e]; exact hM
        rw [List.take_of_length_le (by omega)] at hacc
        subst hacc
        obtain rfl : n1 = f.length := by omega
        exact ⟨V, U, n, la, _, _, rfl, hV2, hM2, rfl⟩

/-! whorl/sais.sorted -/
set_option maxRecDepth 100000 in
set_option maxHeartbeats 1000000 in
theorem sortedStep_ct {w : World} {A_s : Option Addr} {n_s c_s : Nat} {s : List Int} {k : Int} (h_s : Rd w A_s n_s c_s 1 (ints .i64 s)) (IH : ∀ {w : World} {A_t : Option Addr} {n_t c_t : Nat} {t : List Int} {j : Int}, Rd w A_t n_t c_t 1 (ints .i64 t) → t.length < s.length → ((0 ≤ j ∧ j ≤ 1048576) ∧ ∀ x ∈ t, 0 ≤ x ∧ x < j) → t.length ≤ 1000000 → Ct Try.prog 61 #[.slice A_t n_t c_t, .int .i64 j] w.heap.size w [] (fun v R' => ∃ (b : List Int) (A : Option Addr) (c : Nat), v = .slice A t.length c ∧ b.Perm (iota t.length) ∧ b.Pairwise (ordE t) ∧ R' = [⟨3, 1, A, t.length, c, ints .i64 b, false⟩])) (hok : (0 ≤ k ∧ k ≤ 1048576) ∧ ∀ x ∈ s, 0 ≤ x ∧ x < k) (hN : s.length ≤ 1000000) :
    Ct Try.prog 61 #[.slice A_s n_s c_s, .int .i64 k] w.heap.size w [] (fun v R' => ∃ (b : List Int) (A : Option Addr) (c : Nat), v = .slice A s.length c ∧ b.Perm (iota s.length) ∧ b.Pairwise (ordE s) ∧ R' = [⟨3, 1, A, s.length, c, ints .i64 b, false⟩]) := by
  obtain rfl := h_s.lenI
  refine fn1 Try.func61 rfl rfl rfl ?_
  have m_s := h_s.max
  refine w_seq ?_
  refine w_reg ?_
  refine wr_y rfl (y_assign rfl) ?_
  refine wr_nil ?_
  refine w_seq ?_
  refine w_reg ?_
  refine wr_y rfl (y_move rfl) ?_
  refine wr_a rfl (a_callF en48 rfl (Ct.fresh (fun w hw => first_ct ((h_s.c _) w hw) (by first | assumption | omega | decide)))) ?_
  rintro _ _ ⟨_, rfl, A_1, c_2, rfl, rfl⟩
  refine wr_y rfl (y_assign rfl) ?_
  refine wr_nil ?_
  refine w_seq ?_
  refine w_reg ?_
  refine wr_y rfl (y_move rfl) ?_
  refine wr_y rfl (y_move rfl) ?_
  refine wr_y rfl (y_move rfl) ?_
  refine wr_a rfl (a_callF en27 rfl (Ct.fresh (fun w hw => sort_ct ((h_s.c _) w hw) ((rdr 0 rfl) w hw) hok (.refl _) hN))) ?_
  rintro _ _ ⟨_, rfl, A_3, c_4, rfl, rfl⟩
  refine wr_y rfl (y_move rfl) ?_
  refine wr_y rfl (y_extract rfl rfl) ?_
  refine wr_y rfl (y_extract rfl rfl) ?_
  refine wr_y rfl (y_assign rfl) ?_
  refine wr_y rfl (y_assign rfl) ?_
  refine wr_nil ?_
  refine w_seq ?_
  refine w_seq ?_
  refine w_reg ?_
  refine wr_y rfl (y_move rfl) ?_
  refine wr_y rfl (y_len Try.underlying22 rfl) ?_
  refine wr_y rfl (y_lt rfl rfl) ?_
  refine wr_nil ?_
  refine w_if rfl (fun hc1 => ?_) (fun hc1 => ?_)
  ·
    refine w_seq ?_
    refine w_reg ?_
    refine wr_y rfl (y_move rfl) ?_
    refine wr_y rfl (y_assign rfl) ?_
    refine wr_nil ?_
    refine w_retR (R1 := [⟨3, 1, A_3, ((s).length), c_4, ints .i64 (indS s k (fstL s)), false⟩]) (fun _ h => h.sel [0] (by decide) rfl) ?_
    refine ⟨_, rfl, ?_⟩
    exact ⟨_, _, _, rfl, (ind_facts hok.1.1 hok.2 (.refl _)).2.1, (ind_facts hok.1.1 hok.2 (.refl _)).2.2.2 (pw_short (by omega)), rfl⟩
  ·
    have hn1 : 0 < s.length := by have := fstL_len (s := s); omega
    have hpc := ind_pieces hok.1.1 hok.2 (l := fstL s) (.refl _) hn1
    have hsn : Nn s := fun x hx => (hok.2 x hx).1
    have hless := fstL_less hn1
    refine w_skip ?_
    refine w_seq ?_
    refine w_reg ?_
    refine wr_y rfl (y_move rfl) ?_
    refine wr_y rfl (y_move rfl) ?_
    refine wr_y rfl (y_move rfl) ?_
    refine wr_a rfl (a_callF en72 rfl (Ct.fresh (fun w hw => named_ct ((h_s.c _) w hw) ((rdr 1 rfl) w hw) ((rdr 0 rfl) w hw) hsn rfl hpc.1 hpc.2 hN))) ?_
    rintro _ _ ⟨_, rfl, nx, nm, n, la, A_6, c_7, rfl, hNx, hNm, rfl⟩
    refine wr_y rfl (y_move rfl) ?_
    refine wr_y rfl (y_extract rfl rfl) ?_
    refine wr_y rfl (y_extract rfl rfl) ?_
    refine wr_y rfl (y_assign rfl) ?_
    refine wr_y rfl (y_assign rfl) ?_
    refine wr_nil ?_
    refine w_seq ?_
    refine w_reg ?_
    refine wr_sub (R1 := [⟨3, 1, none, 0, 0, ints .i64 ([]), false⟩, ⟨3, 1, A_6, (fstL s).length, c_7, ints .i64 ((fstL s).map (rd nm)), false⟩, ⟨3, 1, A_3, ((s).length), c_4, ints .i64 (indS s k (fstL s)), false⟩, ⟨3, 1, A_1, (fstL s).length, c_2, ints .i64 (fstL s), false⟩]) (Sub.refl _) (fun _ h => h.nil 3 1) ?_
    refine wr_y rfl (y_assign rfl) ?_
    refine wr_nil ?_
    refine w_seq ?_
    refine w_seq ?_
    refine w_reg ?_
    refine wr_y rfl (y_move rfl) ?_
    refine wr_y rfl (y_move rfl) ?_
    refine wr_a rfl (a_callF en61 rfl (Ct.fresh (fun w hw => IH ((rdr 1 rfl) w hw) (by rw [List.length_map]; exact hless) ⟨by have := hNm.bd; omega, names_in hNm hpc.1⟩ (by rw [List.length_map]; omega)))) ?_
    rintro _ _ ⟨_, rfl, b1, A_9, c_10, rfl, hp_b1, hs_b1, rfl⟩
    refine wr_y rfl (y_len Try.underlying22 rfl) ?_
    refine wr_y rfl (y_move rfl) ?_
    refine wr_nil ?_
    refine w_block ?_
    refine w_loop5 (fun (A1 : Option Addr) (n1 : Nat) (c1 : Nat) (acc : List Int) (i : Int) => [(0, .slice A_s s.length c_s), (1, .int .i64 k), (5, .slice A_1 ((fstL s).length) c_2), (10, .slice A1 n1 c1), (35, .slice A_9 (((fstL s).map (rd nm)).length) c_10), (36, .int .i64 ((((fstL s).map (rd nm)).length : Nat) : Int)), (37, .int .i64 i)]) (fun (A1 : Option Addr) (n1 : Nat) (c1 : Nat) (acc : List Int) (i : Int) => [⟨3, 1, A_9, ((fstL s).map (rd nm)).length, c_10, ints .i64 b1, false⟩, ⟨3, 1, A1, n1, c1, ints .i64 acc, false⟩, ⟨3, 1, A_6, (fstL s).length, c_7, ints .i64 ((fstL s).map (rd nm)), false⟩, ⟨3, 1, A_3, ((s).length), c_4, ints .i64 (indS s k (fstL s)), false⟩, ⟨3, 1, A_1, (fstL s).length, c_2, ints .i64 (fstL s), false⟩]) (fun (A1 : Option Addr) (n1 : Nat) (c1 : Nat) (acc : List Int) (i : Int) => (n1 = acc.length) ∧ (0 ≤ i) ∧ (i ≤ b1.length) ∧ (acc = (b1.take i.toNat).map (rd (fstL s)))) (fun (A1 : Option Addr) (n1 : Nat) (c1 : Nat) (acc : List Int) (i : Int) => (b1.length - i).toNat) ?_ ?_
    ·
      exact ⟨none, 0, 0, [], 0, ⟨(rfl), (by omega), (by omega), (rfl)⟩, (Sub.cons rfl (Sub.cons rfl (Sub.cons rfl (Sub.cons rfl (Sub.cons rfl (Sub.cons rfl (Sub.cons rfl Sub.nil))))))), fun _ h => h⟩
    intro A1 n1 c1 acc i ⟨hn1, hi0, hi1, hacc⟩
    have hml : ((fstL s).map (rd nm)).length = (fstL s).length := List.length_map _
    have hbl : b1.length = (fstL s).length := by rw [hp_b1.length_eq, iota_len, List.length_map]
    have hal := congrArg List.length hacc
    rw [List.length_map, List.length_take] at hal
    have hbi : i < b1.length → 0 ≤ rd b1 i ∧ rd b1 i < (fstL s).length := fun h => by
      have := mem_iota.1 (hp_b1.subset (rd_mem (L := b1) hi0 h))
      rwa [List.length_map] at this
    refine w_seq ?_
    refine w_reg ?_
    refine wr_y rfl (y_lt rfl rfl) ?_
    refine wr_nil ?_
    refine w_seq ?_
    refine w_if rfl (fun hc2 => ?_) (fun hc2 => ?_)
    ·
      refine w_skip ?_
      refine w_seq ?_
      refine w_block ?_
      refine w_seq ?_
      refine w_reg ?_
      refine wr_y rfl (y_index1 Try.underlying22 sz3 rfl rfl (rdr 0 rfl) (by omega) (by omega)) ?_
      refine wr_y rfl (y_ldI Try.underlying3 rfl rfl (rdr 0 rfl) (by omega) (by omega)) ?_
      refine wr_y rfl (y_assign rfl) ?_
      refine wr_nil ?_
      refine w_reg ?_
      refine wr_y rfl (y_move rfl) ?_
      refine wr_y rfl (y_move rfl) ?_
      refine wr_y rfl (y_move rfl) ?_
      refine wr_y rfl (y_index1 Try.underlying22 sz3 rfl rfl (rdr 4 rfl) (by omega) (by omega)) ?_
      refine wr_y rfl (y_ldI Try.underlying3 rfl rfl (rdr 4 rfl) (by omega) (by omega)) ?_
      refine wr_a rfl (a_litI .i64 [rd (fstL s) (rd b1 i)] Try.underlying22 zs3 rfl rfl rfl) ?_
      rintro _ _ ⟨g_13, rfl, rfl⟩
      refine wr_a rfl (a_appendI 2 rfl Try.underlying22 zb3 rfl rfl rfl (rdr 0 rfl) (by omega)) ?_
      rintro _ _ ⟨A_14, c_15, rfl, rfl⟩
      refine wr_rows (R1 := [⟨3, 1, (some ⟨g_13, 0, none⟩), 1, 1, ints .i64 ([rd (fstL s) (rd b1 i)]), false⟩, ⟨3, 1, A_9, ((fstL s).map (rd nm)).length, c_10, ints .i64 b1, false⟩, ⟨3, 1, A_14, (n1 + 1), c_15, ints .i64 (acc ++ ([rd (fstL s) (rd b1 i)])), false⟩, ⟨3, 1, A_6, (fstL s).length, c_7, ints .i64 ((fstL s).map (rd nm)), false⟩, ⟨3, 1, A_3, ((s).length), c_4, ints .i64 (indS s k (fstL s)), false⟩, ⟨3, 1, A_1, (fstL s).length, c_2, ints .i64 (fstL s), false⟩]) rfl ?_
      refine wr_as (v := .slice A_14 (n1 + 1) c_15) rfl ?_
      refine wr_y rfl (y_assign rfl) ?_
      refine wr_nil ?_
      refine w_reg ?_
      refine wr_y rfl (y_addI rfl rfl (by omega)) ?_
      refine wr_y rfl (y_move rfl) ?_
      refine wr_nil ?_
      exact ⟨A_14, n1 + 1, c_15, acc ++ ([rd (fstL s) (rd b1 i)]), i + 1, ⟨(by rw [List.length_append, hn1]; try rfl), (by omega), (by omega), (by rw [take_rd hi0 (by omega), List.map_append, hacc]; rfl)⟩, (by omega), (Sub.cons rfl (Sub.cons rfl (Sub.cons rfl (Sub.cons rfl (Sub.cons rfl (Sub.cons rfl (Sub.cons rfl Sub.nil))))))), fun _ h => h.sel [1, 2, 3, 4, 5] (by decide) rfl⟩
    ·
      have hac : acc = b1.map (rd (fstL s)) := by rw [hacc, List.take_of_length_le (by omega)]
      have hr := right_ok hsn hNm hpc.1 hpc.2 hNx hp_b1 hs_b1
      have hap : acc.Perm (fstL s) := by rw [hac]; exact hr.1
      have hao : acc.Pairwise (ordE s) := by rw [hac]; exact hr.2
      refine w_exit ?_
      refine w_seq ?_
      refine w_reg ?_
      refine wr_y rfl (y_move rfl) ?_
      refine wr_y rfl (y_move rfl) ?_
      refine wr_y rfl (y_move rfl) ?_
      refine wr_a rfl (a_callF en27 rfl (Ct.fresh (fun w hw => sort_ct ((h_s.c _) w hw) ((rdr 1 rfl) w hw) hok hap hN))) ?_
      rintro _ _ ⟨_, rfl, A_16, c_17, rfl, rfl⟩
      refine wr_y rfl (y_move rfl) ?_
      refine wr_y rfl (y_extract rfl rfl) ?_
      refine wr_y rfl (y_extract rfl rfl) ?_
      refine wr_y rfl (y_assign rfl) ?_
      refine wr_nil ?_
      refine w_seq ?_
      refine w_reg ?_
      refine wr_y rfl (y_move rfl) ?_
      refine wr_y rfl (y_assign rfl) ?_
      refine wr_nil ?_
      refine w_retR (R1 := [⟨3, 1, A_16, ((s).length), c_17, ints .i64 (indS s k acc), false⟩]) (fun _ h => h.sel [0] (by decide) rfl) ?_
      refine ⟨_, rfl, ?_⟩
      exact ⟨_, _, _, rfl, (ind_facts hok.1.1 hok.2 hap).2.1, (ind_facts hok.1.1 hok.2 hap).2.2.2 hao, rfl⟩

theorem sortedAll (m : Nat) : ∀ {w : World} {A_s : Option Addr} {n_s c_s : Nat} {s : List Int} {k : Int}, Rd w A_s n_s c_s 1 (ints .i64 s) → s.length < m → ((0 ≤ k ∧ k ≤ 1048576) ∧ ∀ x ∈ s, 0 ≤ x ∧ x < k) → s.length ≤ 1000000 →
    Ct Try.prog 61 #[.slice A_s n_s c_s, .int .i64 k] w.heap.size w [] (fun v R' => ∃ (b : List Int) (A : Option Addr) (c : Nat), v = .slice A s.length c ∧ b.Perm (iota s.length) ∧ b.Pairwise (ordE s) ∧ R' = [⟨3, 1, A, s.length, c, ints .i64 b, false⟩]) := by
  induction m with
  | zero => intro w A n c s k _ h; omega
  | succ m ih =>
    intro w A n c s k h_s hm hok hN
    exact sortedStep_ct h_s (fun h1 h2 h3 h4 => ih h1 (by omega) h3 h4) hok hN
theorem saisSorted_ct {w : World} {A_s : Option Addr} {n_s c_s : Nat} {s : List Int} {k : Int} (h_s : Rd w A_s n_s c_s 1 (ints .i64 s)) (hok : (0 ≤ k ∧ k ≤ 1048576) ∧ ∀ x ∈ s, 0 ≤ x ∧ x < k) (hN : s.length ≤ 1000000) :
    Ct Try.prog 61 #[.slice A_s n_s c_s, .int .i64 k] w.heap.size w [] (fun v R' => ∃ (b : List Int) (A : Option Addr) (c : Nat), v = .slice A s.length c ∧ b.Perm (iota s.length) ∧ b.Pairwise (ordE s) ∧ R' = [⟨3, 1, A, s.length, c, ints .i64 b, false⟩]) := sortedAll (s.length + 1) h_s (by omega) hok hN
/-! whorl/sais.Ints -/
set_option maxRecDepth 100000 in
theorem sints_ct {w : World} {A_s : Option Addr} {n_s c_s : Nat} {s : List Int} {k : Int} (h_s : Rd w A_s n_s c_s 1 (ints .i64 s)) (hok : (0 ≤ k ∧ k ≤ 1048576) ∧ ∀ x ∈ s, 0 ≤ x ∧ x < k) (hN : s.length ≤ 100000) :
    Ct Try.prog 35 #[.slice A_s n_s c_s, .int .i64 k] w.heap.size w [] (fun v R' => ∃ (b : List Int) (A : Option Addr) (c : Nat), v = .tuple #[.slice A s.length c, .int .i64 0] ∧ b.Perm (iota s.length) ∧ b.Pairwise (ordE s) ∧ R' = [⟨3, 1, A, s.length, c, ints .i64 b, false⟩]) := by
  obtain rfl := h_s.lenI
  refine fn2 Try.func35 rfl rfl rfl ?_
  have m_s := h_s.max
  refine w_seq ?_
  refine w_reg ?_
  refine wr_y rfl (y_assign rfl) ?_
  refine wr_y rfl (y_assign rfl) ?_
  refine wr_nil ?_
  refine w_seq ?_
  refine w_seq ?_
  refine w_reg ?_
  refine wr_y rfl (y_move rfl) ?_
  refine wr_y rfl (y_len Try.underlying22 rfl) ?_
  refine wr_y rfl (Yl.f (y_gt rfl rfl) (by omega)) ?_
  refine wr_nil ?_
  refine w_false rfl ?_
  refine w_skip ?_
  refine w_seq ?_
  refine w_seq ?_
  refine w_reg ?_
  refine wr_y rfl (y_move rfl) ?_
  refine wr_y rfl (y_move rfl) ?_
  refine wr_a rfl (a_callF en38 rfl (Ct.fresh (fun w hw => countsOk_ct ((h_s.c _) w hw) (by first | assumption | omega | decide)))) ?_
  rintro _ _ ⟨_, rfl, A_1, c_2, rfl, rfl⟩
  refine wr_y rfl (y_move rfl) ?_
  refine wr_y rfl (y_extract rfl rfl) ?_
  refine wr_y rfl (y_extract rfl rfl) ?_
  refine wr_y rfl (y_assign rfl) ?_
  refine wr_y rfl (y_assign rfl) ?_
  refine wr_nil ?_
  refine w_seq ?_
  refine w_reg ?_
  refine wr_y rfl (y_move rfl) ?_
  refine wr_y rfl (y_not rfl) ?_
  refine wr_nil ?_
  refine w_false rfl ?_
  refine w_skip ?_
  refine w_seq ?_
  refine w_reg ?_
  refine wr_y rfl (y_move rfl) ?_
  refine wr_y rfl (y_move rfl) ?_
  refine wr_a rfl (a_callF en61 rfl (Ct.fresh (fun w hw => saisSorted_ct ((h_s.c _) w hw) hok (by omega)))) ?_
  rintro _ _ ⟨_, rfl, b1, A_4, c_5, rfl, hp_b1, hs_b1, rfl⟩
  refine wr_y rfl (y_assign rfl) ?_
  refine wr_y rfl (y_assign rfl) ?_
  refine wr_nil ?_
  refine w_retR (R1 := [⟨3, 1, A_4, s.length, c_5, ints .i64 b1, false⟩]) (fun _ h => h.sel [0] (by decide) rfl) ?_
  refine ⟨_, _, rfl, rfl, ?_⟩
  exact ⟨b1, _, _, rfl, hp_b1, hs_b1, rfl⟩

/-! whorl/sais.Ints -/
set_option maxRecDepth 100000 in
theorem sintsNo_ct {w : World} {A_s : Option Addr} {n_s c_s : Nat} {s : List Int} {k : Int} (h_s : Rd w A_s n_s c_s 1 (ints .i64 s)) (hno : ¬ ((0 ≤ k ∧ k ≤ 1048576) ∧ ∀ x ∈ s, 0 ≤ x ∧ x < k)) (hN : s.length ≤ 100000) :
    Ct Try.prog 35 #[.slice A_s n_s c_s, .int .i64 k] w.heap.size w [] (fun v R' => v = .tuple #[.slice none 0 0, .int .i64 1]) := by
  obtain rfl := h_s.lenI
  refine fn2 Try.func35 rfl rfl rfl ?_
  have m_s := h_s.max
  refine w_seq ?_
  refine w_reg ?_
  refine wr_y rfl (y_assign rfl) ?_
  refine wr_y rfl (y_assign rfl) ?_
  refine wr_nil ?_
  refine w_seq ?_
  refine w_seq ?_
  refine w_reg ?_
  refine wr_y rfl (y_move rfl) ?_
  refine wr_y rfl (y_len Try.underlying22 rfl) ?_
  refine wr_y rfl (Yl.f (y_gt rfl rfl) (by omega)) ?_
  refine wr_nil ?_
  refine w_false rfl ?_
  refine w_skip ?_
  refine w_seq ?_
  refine w_seq ?_
  refine w_reg ?_
  refine wr_y rfl (y_move rfl) ?_
  refine wr_y rfl (y_move rfl) ?_
  refine wr_a rfl (a_callF en38 rfl (Ct.quiet (fun w hw => countsNo_ct ((h_s.c _) w hw) hno))) ?_
  rintro _ _ ⟨rfl, rfl⟩
  refine wr_y rfl (y_move rfl) ?_
  refine wr_y rfl (y_extract rfl rfl) ?_
  refine wr_y rfl (y_extract rfl rfl) ?_
  refine wr_y rfl (y_assign rfl) ?_
  refine wr_y rfl (y_assign rfl) ?_
  refine wr_nil ?_
  refine w_seq ?_
  refine w_reg ?_
  refine wr_y rfl (y_move rfl) ?_
  refine wr_y rfl (y_not rfl) ?_
  refine wr_nil ?_
  refine w_true rfl ?_
  refine w_seq ?_
  refine w_reg ?_
  refine wr_y rfl (y_assign rfl) ?_
  refine wr_y rfl (y_assign rfl) ?_
  refine wr_nil ?_
  refine w_ret ?_
  refine ⟨_, _, rfl, rfl, ?_⟩
  rfl

/-! whorl/sais.Ints -/
set_option maxRecDepth 100000 in
theorem sintsLong_ct {w : World} {A_s : Option Addr} {n_s c_s : Nat} {s : List Int} {k : Int} (h_s : Rd w A_s n_s c_s 1 (ints .i64 s)) (hN : 100000 < s.length) :
    Ct Try.prog 35 #[.slice A_s n_s c_s, .int .i64 k] w.heap.size w [] (fun v R' => v = .tuple #[.slice none 0 0, .int .i64 2]) := by
  obtain rfl := h_s.lenI
  refine fn2 Try.func35 rfl rfl rfl ?_
  have m_s := h_s.max
  refine w_seq ?_
  refine w_reg ?_
  refine wr_y rfl (y_assign rfl) ?_
  refine wr_y rfl (y_assign rfl) ?_
  refine wr_nil ?_
  refine w_seq ?_
  refine w_seq ?_
  refine w_reg ?_
  refine wr_y rfl (y_move rfl) ?_
  refine wr_y rfl (y_len Try.underlying22 rfl) ?_
  refine wr_y rfl (Yl.t (y_gt rfl rfl) (by omega)) ?_
  refine wr_nil ?_
  refine w_true rfl ?_
  refine w_seq ?_
  refine w_reg ?_
  refine wr_y rfl (y_assign rfl) ?_
  refine wr_y rfl (y_assign rfl) ?_
  refine wr_nil ?_
  refine w_ret ?_
  refine ⟨_, _, rfl, rfl, ?_⟩
  rfl

/-! whorl/sais.Bytes -/
set_option maxRecDepth 100000 in
theorem sbytes_ct {w : World} {A_u : Option Addr} {n_u c_u : Nat} {u : List Int} (h_u : Rd w A_u n_u c_u 1 (ints .u8 u)) (bh_u : ByteL u) (hN : u.length ≤ 100000) :
    Ct Try.prog 37 #[.slice A_u n_u c_u] w.heap.size w [] (fun v R' => ∃ (b : List Int) (A : Option Addr) (c : Nat), v = .tuple #[.slice A u.length c, .int .i64 0] ∧ b.Perm (iota u.length) ∧ b.Pairwise (ordE u) ∧ R' = [⟨3, 1, A, u.length, c, ints .i64 b, false⟩]) := by
  obtain rfl := h_u.lenI
  refine fn2 Try.func37 rfl rfl rfl ?_
  have m_u := h_u.max
  refine w_seq ?_
  refine w_reg ?_
  refine wr_y rfl (y_assign rfl) ?_
  refine wr_y rfl (y_assign rfl) ?_
  refine wr_nil ?_
  refine w_seq ?_
  refine w_reg ?_
  refine wr_sub (R1 := [⟨3, 1, none, 0, 0, ints .i64 ([]), false⟩]) (Sub.refl _) (fun _ h => h.nil 3 1) ?_
  refine wr_y rfl (y_assign rfl) ?_
  refine wr_nil ?_
  refine w_seq ?_
  refine w_seq ?_
  refine w_reg ?_
  refine wr_y rfl (y_move rfl) ?_
  refine wr_y rfl (y_len Try.underlying31 rfl) ?_
  refine wr_y rfl (Yl.t (y_le rfl rfl) (by omega)) ?_
  refine wr_nil ?_
  refine w_true rfl ?_
  refine w_seq ?_
  refine w_seq ?_
  refine w_reg ?_
  refine wr_y rfl (y_move rfl) ?_
  refine wr_y rfl (y_len Try.underlying31 rfl) ?_
  refine wr_y rfl (y_move rfl) ?_
  refine wr_nil ?_
  refine w_block ?_
  refine w_loop5 (fun (A1 : Option Addr) (n1 : Nat) (c1 : Nat) (acc : List Int) (i : Int) => [(4, .slice A1 n1 c1), (10, .slice A_u u.length c_u), (11, .int .i64 ((u.length : Nat) : Int)), (12, .int .i64 i)]) (fun (A1 : Option Addr) (n1 : Nat) (c1 : Nat) (acc : List Int) (i : Int) => [⟨3, 1, A1, n1, c1, ints .i64 acc, false⟩]) (fun (A1 : Option Addr) (n1 : Nat) (c1 : Nat) (acc : List Int) (i : Int) => (n1 = acc.length) ∧ (0 ≤ i) ∧ (i ≤ u.length) ∧ (acc = u.take i.toNat)) (fun (A1 : Option Addr) (n1 : Nat) (c1 : Nat) (acc : List Int) (i : Int) => (u.length - i).toNat) ?_ ?_
  ·
    exact ⟨none, 0, 0, [], 0, ⟨(rfl), (by omega), (by omega), (rfl)⟩, (Sub.cons rfl (Sub.cons rfl (Sub.cons rfl (Sub.cons rfl Sub.nil)))), fun _ h => h⟩
  intro A1 n1 c1 acc i ⟨hn1, hi0, hi1, hacc⟩
  have hal := congrArg List.length hacc
  rw [List.length_take] at hal
  refine w_seq ?_
  refine w_reg ?_
  refine wr_y rfl (y_lt rfl rfl) ?_
  refine wr_nil ?_
  refine w_seq ?_
  refine w_if rfl (fun hc1 => ?_) (fun hc1 => ?_)
  ·
    have hbi := bh_u.rd i
    refine w_skip ?_
    refine w_seq ?_
    refine w_block ?_
    refine w_seq ?_
    refine w_reg ?_
    refine wr_y rfl (y_index1 Try.underlying31 sz5 rfl rfl (h_u.c _) (by omega) (by omega)) ?_
    refine wr_y rfl (y_ldI Try.underlying5 rfl rfl (h_u.c _) (by omega) (by omega)) ?_
    refine wr_y rfl (y_assign rfl) ?_
    refine wr_nil ?_
    refine w_reg ?_
    refine wr_y rfl (y_move rfl) ?_
    refine wr_y rfl (y_move rfl) ?_
    refine wr_y rfl (y_convI Try.underlying5 Try.underlying3 rfl (by omega)) ?_
    refine wr_a rfl (a_litI .i64 [rd u i] Try.underlying22 zs3 rfl rfl rfl) ?_
    rintro _ _ ⟨g_2, rfl, rfl⟩
    refine wr_a rfl (a_appendI 1 rfl Try.underlying22 zb3 rfl rfl rfl (rdr 0 rfl) (by omega)) ?_
    rintro _ _ ⟨A_3, c_4, rfl, rfl⟩
    refine wr_rows (R1 := [⟨3, 1, (some ⟨g_2, 0, none⟩), 1, 1, ints .i64 ([rd u i]), false⟩, ⟨3, 1, A_3, (n1 + 1), c_4, ints .i64 (acc ++ ([rd u i])), false⟩]) rfl ?_
    refine wr_as (v := .slice A_3 (n1 + 1) c_4) rfl ?_
    refine wr_y rfl (y_assign rfl) ?_
    refine wr_nil ?_
    refine w_reg ?_
    refine wr_y rfl (y_addI rfl rfl (by omega)) ?_
    refine wr_y rfl (y_move rfl) ?_
    refine wr_nil ?_
    exact ⟨A_3, n1 + 1, c_4, acc ++ ([rd u i]), i + 1, ⟨(by rw [List.length_append, hn1]; try rfl), (by omega), (by omega), (by rw [take_rd hi0 (by omega), hacc])⟩, (by omega), (Sub.cons rfl (Sub.cons rfl (Sub.cons rfl (Sub.cons rfl Sub.nil)))), fun _ h => h.sel [1] (by decide) rfl⟩
  ·
    have hau : acc = u := by rw [hacc, List.take_of_length_le (by omega)]
    refine w_exit ?_
    refine w_seq ?_
    refine w_reg ?_
    refine wr_y rfl (y_move rfl) ?_
    refine wr_a rfl (a_callF en35 rfl (Ct.fresh (fun w hw => sints_ct ((rdr 0 rfl) w hw) ⟨by omega, fun x hx => by rw [hau] at hx; have := bh_u x hx; omega⟩ (by omega)))) ?_
    rintro _ _ ⟨_, rfl, b1, A_5, c_6, rfl, hp_b1, hs_b1, rfl⟩
    refine wr_y rfl (y_extract rfl rfl) ?_
    refine wr_y rfl (y_extract rfl rfl) ?_
    refine wr_y rfl (y_assign rfl) ?_
    refine wr_y rfl (y_assign rfl) ?_
    refine wr_nil ?_
    refine w_retR (R1 := [⟨3, 1, A_5, acc.length, c_6, ints .i64 b1, false⟩]) (fun _ h => h.sel [0] (by decide) rfl) ?_
    refine ⟨_, _, rfl, rfl, ?_⟩
    subst hau
    exact ⟨b1, _, _, rfl, hp_b1, hs_b1, rfl⟩

/-! whorl/sais.Bytes -/
set_option maxRecDepth 100000 in
theorem sbytesLong_ct {w : World} {A_u : Option Addr} {n_u c_u : Nat} {u : List Int} (h_u : Rd w A_u n_u c_u 1 (ints .u8 u)) (hN : 100000 < u.length) :
    Ct Try.prog 37 #[.slice A_u n_u c_u] w.heap.size w [] (fun v R' => v = .tuple #[.slice none 0 0, .int .i64 2]) := by
  obtain rfl := h_u.lenI
  refine fn2 Try.func37 rfl rfl rfl ?_
  have m_u := h_u.max
  refine w_seq ?_
  refine w_reg ?_
  refine wr_y rfl (y_assign rfl) ?_
  refine wr_y rfl (y_assign rfl) ?_
  refine wr_nil ?_
  refine w_seq ?_
  refine w_reg ?_
  refine wr_y rfl (y_assign rfl) ?_
  refine wr_nil ?_
  refine w_seq ?_
  refine w_seq ?_
  refine w_reg ?_
  refine wr_y rfl (y_move rfl) ?_
  refine wr_y rfl (y_len Try.underlying31 rfl) ?_
  refine wr_y rfl (Yl.f (y_le rfl rfl) (by omega)) ?_
  refine wr_nil ?_
  refine w_false rfl ?_
  refine w_skip ?_
  refine w_seq ?_
  refine w_reg ?_
  refine wr_y rfl (y_assign rfl) ?_
  refine wr_y rfl (y_assign rfl) ?_
  refine wr_nil ?_
  refine w_ret ?_
  refine ⟨_, _, rfl, rfl, ?_⟩
  rfl

end Go.Proofs.Ytlagmdccneompaa
