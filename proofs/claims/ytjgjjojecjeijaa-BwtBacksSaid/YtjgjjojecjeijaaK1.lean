/- Walks of Go functions, printed by a program of our own. -/
import Derived.Test.YtjgjjojecjeijaaJ1
import Derived.Test.YtjgjjojecjeijaaQ29
namespace Go.Proofs.Ytjgjjojecjeijaa
open Go Go.Eng Go.Pure
set_option linter.unusedVariables false
theorem not_again {a : List Int} (hd : a.Nodup) {i : Int} (i0 : 0 ≤ i) (hi : i < a.length) : rd a i ∉ a.take i.toNat := fun h => by
  obtain ⟨q, hq, e⟩ := List.mem_iff_getElem.1 h
  rw [List.length_take] at hq
  rw [List.getElem_take] at e
  have := rd_inj hd (i := (q : Int)) (j := i) (by omega) (by omega) i0 hi (by rw [rd_getI (i := (q : Int)) (by omega) (by omega)]; simp only [Int.toNat_natCast]; exact e)
  omega
theorem seen_step {a : List Int} {E : List Bool} {i : Int} {n : Nat} (i0 : 0 ≤ i) (hi : i < a.length) (hl : E.length = n) (ha : 0 ≤ rd a i ∧ rd a i < n) (h : ∀ x : Int, 0 ≤ x → x < n → (rdb E x = true ↔ x ∈ a.take i.toNat)) : ∀ x : Int, 0 ≤ x → x < n → (rdb (updB E (rd a i) true) x = true ↔ x ∈ a.take (i + 1).toNat) := by
  intro x x0 x1
  rw [take_rd i0 hi, rdb_upd ha.1 (by omega) x0, List.mem_append, List.mem_singleton]
  split
  · rename_i e; exact ⟨fun _ => .inr e, fun _ => rfl⟩
  · rename_i e; rw [h x x0 x1]; exact ⟨.inl, fun h => h.resolve_right e⟩
theorem inv_step {a V : List Int} {i : Int} {n : Nat} (i0 : 0 ≤ i) (hi : i < a.length) (hd : a.Nodup) (hl : V.length = n) (ha : ∀ q : Int, 0 ≤ q → q < a.length → 0 ≤ rd a q ∧ rd a q < n) (h : ∀ q : Int, 0 ≤ q → q < i → rd V (rd a q) = q) : ∀ q : Int, 0 ≤ q → q < i + 1 → rd (upd V (rd a i) i) (rd a q) = q := by
  intro q q0 q1
  have h1 := ha i i0 hi
  have h2 := ha q q0 (by omega)
  rw [rd_upd h1.1 h2.1 (by omega)]
  split
  · rename_i e; exact rd_inj hd i0 hi q0 (by omega) e.symm
  · rename_i e
    refine h q q0 ?_
    rcases Int.lt_or_le q i with g | g
    · exact g
    · obtain rfl : q = i := by omega
      exact absurd rfl e
theorem bperm_of {a : List Int} (hn : a.Nodup) (hr : ∀ x ∈ a, 0 ≤ x ∧ x < a.length) : a.Perm (iota a.length) := perm_all hn (fun x hx => mem_iota.2 (hr x hx)) (by rw [iota_len]; exact Nat.le_refl _)
def fsL (l : List Int) : List Int := (iota l.length).map (lfC l)
theorem fsL_len (l : List Int) : (fsL l).length = l.length := by unfold fsL; rw [List.length_map, iota_len]
theorem rd_fsL {l : List Int} {i : Int} (i0 : 0 ≤ i) (hi : i < l.length) : rd (fsL l) i = lfC l i := by
  unfold fsL
  rw [rd_map i0 (by rw [iota_len]; exact hi), rd_iota i0 hi]
theorem pk_len {l : List Int} (hl : ByteL l) : (passK (iota l.length) l (256 : Int).toNat).length = l.length := by
  have := (lf_order (l := l) hl).1.length_eq
  rwa [iota_len] at this
theorem pk_perm {l : List Int} (hl : ByteL l) : (passK (iota l.length) l (256 : Int).toNat).Perm (iota (passK (iota l.length) l (256 : Int).toNat).length) := by
  rw [pk_len hl]
  exact (lf_order (l := l) hl).1
theorem fs_of {l V : List Int} (hl : ByteL l) (h1 : V.length = (passK (iota l.length) l (256 : Int).toNat).length) (h2 : ∀ q : Int, 0 ≤ q → q < (passK (iota l.length) l (256 : Int).toNat).length → rd V (rd (passK (iota l.length) l (256 : Int).toNat) q) = q) : V = fsL l := by
  rw [pk_len hl] at h1 h2
  refine list_ext_rd (by rw [h1, fsL_len]) fun j j0 j1 => ?_
  rw [rd_fsL j0 (by omega)]
  obtain ⟨q, q0, q1, e, f⟩ := lf_ix (l := l) hl j0 (by omega)
  rw [f, ← e]
  exact h2 q q0 q1
theorem ofT_yes {s a P acc : List Int} {i : Int} (i0 : 0 ≤ i) (hi : i < a.length) (h : acc = P ++ ofT s (a.take i.toNat)) (h0 : rd a i = 0) : acc = P ++ ofT s (a.take (i + 1).toNat) := by
  rw [ofT_step i0 hi, if_pos h0, List.append_nil]; exact h
theorem ofT_no {s a P acc : List Int} {i : Int} (i0 : 0 ≤ i) (hi : i < a.length) (h : acc = P ++ ofT s (a.take i.toNat)) (h0 : ¬ rd a i = 0) : acc ++ [rd s (rd a i - 1)] = P ++ ofT s (a.take (i + 1).toNat) := by
  rw [ofT_step i0 hi, if_neg h0, ← List.append_assoc, h]
theorem zat_yes {a : List Int} {i : Int} (hd : a.Nodup) (i0 : 0 ≤ i) (hi : i < a.length) (h0 : rd a i = 0) : i + 1 = zat (a.take (i + 1).toNat) := by rw [zat_step hd i0 hi, if_pos h0]
theorem zat_no {a : List Int} {i m : Int} (hd : a.Nodup) (i0 : 0 ≤ i) (hi : i < a.length) (h : m = zat (a.take i.toNat)) (h0 : ¬ rd a i = 0) : m = zat (a.take (i + 1).toNat) := by rw [zat_step hd i0 hi, if_neg h0]; exact h
theorem ofT_len (s : List Int) (l : List Int) : (ofT s l).length ≤ l.length := by unfold ofT; rw [List.length_map]; exact List.length_filter_le _ _
/-! whorl/rank.Inverse -/
set_option maxRecDepth 100000 in
set_option maxHeartbeats 800000 in
theorem rinv_ct {w : World} {A_a : Option Addr} {n_a c_a : Nat} {a : List Int} (h_a : Rd w A_a n_a c_a 1 (ints .i64 a)) (hp : a.Perm (iota a.length)) (hN : a.length ≤ 1000000) :
    Ct Try.prog 39 #[.slice A_a n_a c_a] w.heap.size w [] (fun v R' => ∃ A c V, v = .tuple #[.slice A a.length c, .bool true] ∧ V.length = a.length ∧ (∀ q : Int, 0 ≤ q → q < a.length → rd V (rd a q) = q) ∧ R' = [⟨3, 1, A, a.length, c, ints .i64 V, false⟩]) := by
  obtain rfl := h_a.lenI
  refine fn2 Try.func39 rfl rfl rfl ?_
  have m_a := h_a.max
  have hnd : a.Nodup := hp.symm.nodup (iota_nodup _)
  have hall : ∀ q : Int, 0 ≤ q → q < a.length → 0 ≤ rd a q ∧ rd a q < a.length := fun q q0 q1 => mem_iota.1 (hp.subset (rd_mem q0 q1))
  refine w_seq ?_
  refine w_reg ?_
  refine wr_y rfl (y_assign rfl) ?_
  refine wr_y rfl (y_assign rfl) ?_
  refine wr_nil ?_
  refine w_seq ?_
  refine w_reg ?_
  refine wr_y rfl (y_move rfl) ?_
  refine wr_y rfl (y_len Try.underlying23 rfl) ?_
  refine wr_a rfl (a_makeN Try.underlying23 zb3 rfl rfl (by omega) (by omega) (by omega)) ?_
  rintro _ _ ⟨g_1, rfl, rfl⟩
  refine wr_rows (R1 := [⟨3, 1, (some ⟨g_1, 0, none⟩), a.length, a.length, ints .i64 (List.replicate a.length (0 : Int)), false⟩]) rfl ?_
  refine wr_as (v := .slice (some ⟨g_1, 0, none⟩) a.length a.length) rfl ?_
  refine wr_y rfl (y_assign rfl) ?_
  refine wr_nil ?_
  refine w_seq ?_
  refine w_reg ?_
  refine wr_y rfl (y_move rfl) ?_
  refine wr_y rfl (y_len Try.underlying23 rfl) ?_
  refine wr_a rfl (a_makeB Try.underlying81 zb4 rfl rfl (by omega) (by omega) (by omega)) ?_
  rintro _ _ ⟨g_2, rfl, rfl⟩
  refine wr_rows (R1 := [⟨4, 1, (some ⟨g_2, 0, none⟩), a.length, a.length, bools (List.replicate a.length false), false⟩, ⟨3, 1, (some ⟨g_1, 0, none⟩), a.length, a.length, ints .i64 (List.replicate a.length (0 : Int)), false⟩]) rfl ?_
  refine wr_as (v := .slice (some ⟨g_2, 0, none⟩) a.length a.length) rfl ?_
  refine wr_y rfl (y_assign rfl) ?_
  refine wr_nil ?_
  refine w_seq ?_
  refine w_seq ?_
  refine w_reg ?_
  refine wr_y rfl (y_move rfl) ?_
  refine wr_y rfl (y_len Try.underlying23 rfl) ?_
  refine wr_y rfl (y_move rfl) ?_
  refine wr_nil ?_
  refine w_block ?_
  refine w_loop3 (fun (i : Int) (V : List Int) (E : List Bool) => [(0, .slice A_a a.length c_a), (4, .slice (some ⟨g_1, 0, none⟩) a.length a.length), (5, .slice (some ⟨g_2, 0, none⟩) a.length a.length), (14, .slice A_a a.length c_a), (15, .int .i64 ((a.length : Nat) : Int)), (16, .int .i64 i)]) (fun (i : Int) (V : List Int) (E : List Bool) => [⟨4, 1, (some ⟨g_2, 0, none⟩), a.length, a.length, bools E, false⟩, ⟨3, 1, (some ⟨g_1, 0, none⟩), a.length, a.length, ints .i64 V, false⟩]) (fun (i : Int) (V : List Int) (E : List Bool) => (0 ≤ i) ∧ (i ≤ a.length) ∧ (V.length = a.length) ∧ (E.length = a.length) ∧ (∀ x : Int, 0 ≤ x → x < a.length → (rdb E x = true ↔ x ∈ a.take i.toNat)) ∧ (∀ q : Int, 0 ≤ q → q < i → rd V (rd a q) = q)) (fun (i : Int) (V : List Int) (E : List Bool) => (a.length - i).toNat) ?_ ?_
  ·
    exact ⟨0, List.replicate a.length (0 : Int), List.replicate a.length false, ⟨(by omega), (by omega), (by rw [List.length_replicate]), (by rw [List.length_replicate]), (fun x h0 h1 => by rw [rdb_rep]; simp), (fun q h0 h1 => by omega)⟩, (Sub.cons rfl (Sub.cons rfl (Sub.cons rfl (Sub.cons rfl (Sub.cons rfl (Sub.cons rfl Sub.nil)))))), fun _ h => h⟩
  intro i V E ⟨hi0, hi1, hVl, hEl, hE, hV⟩
  refine w_seq ?_
  refine w_reg ?_
  refine wr_y rfl (y_lt rfl rfl) ?_
  refine wr_nil ?_
  refine w_seq ?_
  refine w_if rfl (fun hc1 => ?_) (fun hc1 => ?_)
  ·
    have ha := hall i hi0 (by omega)
    have hno := not_again hnd hi0 (by omega)
    refine w_skip ?_
    refine w_seq ?_
    refine w_block ?_
    refine w_seq ?_
    refine w_reg ?_
    refine wr_y rfl (y_move rfl) ?_
    refine wr_y rfl (y_index1 Try.underlying23 sz3 rfl rfl (h_a.c _) (by omega) (by omega)) ?_
    refine wr_y rfl (y_ldI Try.underlying3 rfl rfl (h_a.c _) (by omega) (by omega)) ?_
    refine wr_y rfl (y_assign rfl) ?_
    refine wr_y rfl (y_assign rfl) ?_
    refine wr_nil ?_
    refine w_seq ?_
    refine w_seq ?_
    refine w_reg ?_
    refine wr_y rfl (y_move rfl) ?_
    refine wr_y rfl (Yl.f (y_lt rfl rfl) (by omega)) ?_
    refine wr_y rfl (y_move rfl) ?_
    refine wr_yes rfl rfl ?_
    refine wr_y rfl (y_move rfl) ?_
    refine wr_yes rfl rfl ?_
    refine wr_y rfl (y_move rfl) ?_
    refine wr_yes rfl rfl ?_
    refine wr_y rfl (y_len Try.underlying23 rfl) ?_
    refine wr_yes rfl rfl ?_
    refine wr_y rfl (Yl.f (y_ge rfl rfl) (by omega)) ?_
    refine wr_y rfl (y_pickF rfl rfl) ?_
    refine wr_y rfl (y_move rfl) ?_
    refine wr_yes rfl rfl ?_
    refine wr_y rfl (y_move rfl) ?_
    refine wr_yes rfl rfl ?_
    refine wr_y rfl (y_move rfl) ?_
    refine wr_yes rfl rfl ?_
    refine wr_y rfl (y_index1 Try.underlying81 sz4 rfl rfl (rdr 0 rfl) (by omega) (by omega)) ?_
    refine wr_yes rfl rfl ?_
    refine wr_y rfl (Yl.f (y_ldB Try.underlying4 rfl rfl (rdr 0 rfl) (by omega) (by omega)) (fun h => hno ((hE _ ha.1 ha.2).1 h))) ?_
    refine wr_y rfl (y_pickF rfl rfl) ?_
    refine wr_nil ?_
    refine w_false rfl ?_
    refine w_skip ?_
    refine w_reg ?_
    refine wr_y rfl (y_move rfl) ?_
    refine wr_y rfl (y_move rfl) ?_
    refine wr_y rfl (y_move rfl) ?_
    refine wr_y rfl (y_move rfl) ?_
    refine wr_y rfl (y_move rfl) ?_
    refine wr_y rfl (y_index1 Try.underlying23 sz3 rfl rfl (rdr 1 rfl) (by omega) (by omega)) ?_
    refine wr_n (a_storeI 1 rfl sz3 rfl rfl (by omega) (by omega)) ?_
    rintro _ _ rfl
    refine wr_rows (R1 := [⟨4, 1, (some ⟨g_2, 0, none⟩), a.length, a.length, bools E, false⟩, ⟨3, 1, (some ⟨g_1, 0, none⟩), a.length, a.length, ints .i64 (upd V (rd a i) i), false⟩]) rfl ?_
    refine wr_y rfl (y_index1 Try.underlying81 sz4 rfl rfl (rdr 0 rfl) (by omega) (by omega)) ?_
    refine wr_n (a_storeB 0 rfl sz4 rfl rfl (by omega) (by omega)) ?_
    rintro _ _ rfl
    refine wr_rows (R1 := [⟨4, 1, (some ⟨g_2, 0, none⟩), a.length, a.length, bools (updB E (rd a i) true), false⟩, ⟨3, 1, (some ⟨g_1, 0, none⟩), a.length, a.length, ints .i64 (upd V (rd a i) i), false⟩]) rfl ?_
    refine wr_nil ?_
    refine w_reg ?_
    refine wr_y rfl (y_addI rfl rfl (by omega)) ?_
    refine wr_y rfl (y_move rfl) ?_
    refine wr_nil ?_
    exact ⟨i + 1, upd V (rd a i) i, updB E (rd a i) true, ⟨(by omega), (by omega), (by rw [upd_length]; exact hVl), (by rw [updB_len]; exact hEl), (seen_step hi0 (by omega) hEl ha hE), (inv_step hi0 (by omega) hnd hVl hall hV)⟩, (by omega), (Sub.cons rfl (Sub.cons rfl (Sub.cons rfl (Sub.cons rfl (Sub.cons rfl (Sub.cons rfl Sub.nil)))))), fun _ h => h⟩
  ·
    refine w_exit ?_
    refine w_seq ?_
    refine w_reg ?_
    refine wr_y rfl (y_move rfl) ?_
    refine wr_y rfl (y_assign rfl) ?_
    refine wr_y rfl (y_assign rfl) ?_
    refine wr_nil ?_
    refine w_retR (R1 := [⟨3, 1, (some ⟨g_1, 0, none⟩), a.length, a.length, ints .i64 V, false⟩]) (fun _ h => h.sel [1] (by decide) rfl) ?_
    refine ⟨_, _, rfl, rfl, ?_⟩
    exact ⟨_, _, V, rfl, hVl, fun q h0 h1 => hV q h0 (by omega), rfl⟩

/-! whorl/rank.Inverse -/
set_option maxRecDepth 100000 in
set_option maxHeartbeats 800000 in
theorem rinvNo_ct {w : World} {A_a : Option Addr} {n_a c_a : Nat} {a : List Int} (h_a : Rd w A_a n_a c_a 1 (ints .i64 a)) (hnp : ¬ a.Perm (iota a.length)) (hN : a.length ≤ 1000000) :
    Ct Try.prog 39 #[.slice A_a n_a c_a] w.heap.size w [] (fun v R' => v = .tuple #[.slice none 0 0, .bool false]) := by
  obtain rfl := h_a.lenI
  refine fn2 Try.func39 rfl rfl rfl ?_
  have m_a := h_a.max
  refine w_seq ?_
  refine w_reg ?_
  refine wr_y rfl (y_assign rfl) ?_
  refine wr_y rfl (y_assign rfl) ?_
  refine wr_nil ?_
  refine w_seq ?_
  refine w_reg ?_
  refine wr_y rfl (y_move rfl) ?_
  refine wr_y rfl (y_len Try.underlying23 rfl) ?_
  refine wr_a rfl (a_makeN Try.underlying23 zb3 rfl rfl (by omega) (by omega) (by omega)) ?_
  rintro _ _ ⟨g_1, rfl, rfl⟩
  refine wr_rows (R1 := [⟨3, 1, (some ⟨g_1, 0, none⟩), a.length, a.length, ints .i64 (List.replicate a.length (0 : Int)), false⟩]) rfl ?_
  refine wr_as (v := .slice (some ⟨g_1, 0, none⟩) a.length a.length) rfl ?_
  refine wr_y rfl (y_assign rfl) ?_
  refine wr_nil ?_
  refine w_seq ?_
  refine w_reg ?_
  refine wr_y rfl (y_move rfl) ?_
  refine wr_y rfl (y_len Try.underlying23 rfl) ?_
  refine wr_a rfl (a_makeB Try.underlying81 zb4 rfl rfl (by omega) (by omega) (by omega)) ?_
  rintro _ _ ⟨g_2, rfl, rfl⟩
  refine wr_rows (R1 := [⟨4, 1, (some ⟨g_2, 0, none⟩), a.length, a.length, bools (List.replicate a.length false), false⟩, ⟨3, 1, (some ⟨g_1, 0, none⟩), a.length, a.length, ints .i64 (List.replicate a.length (0 : Int)), false⟩]) rfl ?_
  refine wr_as (v := .slice (some ⟨g_2, 0, none⟩) a.length a.length) rfl ?_
  refine wr_y rfl (y_assign rfl) ?_
  refine wr_nil ?_
  refine w_seq ?_
  refine w_seq ?_
  refine w_reg ?_
  refine wr_y rfl (y_move rfl) ?_
  refine wr_y rfl (y_len Try.underlying23 rfl) ?_
  refine wr_y rfl (y_move rfl) ?_
  refine wr_nil ?_
  refine w_block ?_
  refine w_loop3 (fun (i : Int) (V : List Int) (E : List Bool) => [(0, .slice A_a a.length c_a), (4, .slice (some ⟨g_1, 0, none⟩) a.length a.length), (5, .slice (some ⟨g_2, 0, none⟩) a.length a.length), (14, .slice A_a a.length c_a), (15, .int .i64 ((a.length : Nat) : Int)), (16, .int .i64 i)]) (fun (i : Int) (V : List Int) (E : List Bool) => [⟨4, 1, (some ⟨g_2, 0, none⟩), a.length, a.length, bools E, false⟩, ⟨3, 1, (some ⟨g_1, 0, none⟩), a.length, a.length, ints .i64 V, false⟩]) (fun (i : Int) (V : List Int) (E : List Bool) => (0 ≤ i) ∧ (i ≤ a.length) ∧ (V.length = a.length) ∧ (E.length = a.length) ∧ (∀ x : Int, 0 ≤ x → x < a.length → (rdb E x = true ↔ x ∈ a.take i.toNat)) ∧ ((a.take i.toNat).Nodup) ∧ (∀ x ∈ a.take i.toNat, 0 ≤ x ∧ x < a.length)) (fun (i : Int) (V : List Int) (E : List Bool) => (a.length - i).toNat) ?_ ?_
  ·
    exact ⟨0, List.replicate a.length (0 : Int), List.replicate a.length false, ⟨(by omega), (by omega), (by rw [List.length_replicate]), (by rw [List.length_replicate]), (fun x h0 h1 => by rw [rdb_rep]; simp), (.nil), (fun x hx => by cases hx)⟩, (Sub.cons rfl (Sub.cons rfl (Sub.cons rfl (Sub.cons rfl (Sub.cons rfl (Sub.cons rfl Sub.nil)))))), fun _ h => h⟩
  intro i V E ⟨hi0, hi1, hVl, hEl, hE, hn, hr⟩
  refine w_seq ?_
  refine w_reg ?_
  refine wr_y rfl (y_lt rfl rfl) ?_
  refine wr_nil ?_
  refine w_seq ?_
  refine w_if rfl (fun hc1 => ?_) (fun hc1 => ?_)
  ·
    refine w_skip ?_
    refine w_seq ?_
    refine w_block ?_
    refine w_seq ?_
    refine w_reg ?_
    refine wr_y rfl (y_move rfl) ?_
    refine wr_y rfl (y_index1 Try.underlying23 sz3 rfl rfl (h_a.c _) (by omega) (by omega)) ?_
    refine wr_y rfl (y_ldI Try.underlying3 rfl rfl (h_a.c _) (by omega) (by omega)) ?_
    refine wr_y rfl (y_assign rfl) ?_
    refine wr_y rfl (y_assign rfl) ?_
    refine wr_nil ?_
    refine w_seq ?_
    refine w_seq ?_
    refine w_reg ?_
    refine wr_y rfl (y_move rfl) ?_
    refine wr_y rfl (y_lt rfl rfl) ?_
    refine wr_y rfl (y_move rfl) ?_
    refine wr_mid 5 [(0, .slice A_a a.length c_a), (4, .slice (some ⟨g_1, 0, none⟩) a.length a.length), (5, .slice (some ⟨g_2, 0, none⟩) a.length a.length), (6, .int .i64 i), (7, .int .i64 (rd a i)), (14, .slice A_a a.length c_a), (15, .int .i64 ((a.length : Nat) : Int)), (16, .int .i64 i), (28, .bool (decide (((rd a i) < 0) ∨ (((a.length : Nat) : Int) ≤ (rd a i)))))] [⟨4, 1, (some ⟨g_2, 0, none⟩), a.length, a.length, bools E, false⟩, ⟨3, 1, (some ⟨g_1, 0, none⟩), a.length, a.length, ints .i64 V, false⟩] ?_ ?_
    ·
      refine wr_case 23 rfl (fun hc2 => ?_) (fun hc2 => ?_)
      ·
        refine wr_no rfl rfl rfl rfl ?_
        refine wr_no rfl rfl rfl rfl ?_
        refine wr_no rfl rfl rfl rfl ?_
        refine wr_no rfl rfl rfl rfl ?_
        refine wr_y rfl (y_pickT rfl rfl) ?_
        refine wr_nil ?_
        exact ⟨(Sub.cons rfl (Sub.cons rfl (Sub.cons rfl (Sub.cons rfl (Sub.cons rfl (Sub.cons rfl (Sub.cons rfl (Sub.cons rfl (Sub.to rfl (mb_t (by first | omega | exact ⟨fun h => ⟨(by assumption), h⟩, fun h => h.2⟩ | simp [*])) Sub.nil))))))))), fun _ h => h⟩
      ·
        refine wr_yes rfl rfl ?_
        refine wr_y rfl (y_move rfl) ?_
        refine wr_yes rfl rfl ?_
        refine wr_y rfl (y_move rfl) ?_
        refine wr_yes rfl rfl ?_
        refine wr_y rfl (y_len Try.underlying23 rfl) ?_
        refine wr_yes rfl rfl ?_
        refine wr_y rfl (y_ge rfl rfl) ?_
        refine wr_y rfl (y_pickF rfl rfl) ?_
        refine wr_nil ?_
        exact ⟨(Sub.cons rfl (Sub.cons rfl (Sub.cons rfl (Sub.cons rfl (Sub.cons rfl (Sub.cons rfl (Sub.cons rfl (Sub.cons rfl (Sub.to rfl (mb (by first | omega | exact ⟨fun h => ⟨(by assumption), h⟩, fun h => h.2⟩ | simp [*])) Sub.nil))))))))), fun _ h => h⟩
    refine wr_y rfl (y_move rfl) ?_
    refine wr_mid 5 [(0, .slice A_a a.length c_a), (4, .slice (some ⟨g_1, 0, none⟩) a.length a.length), (5, .slice (some ⟨g_2, 0, none⟩) a.length a.length), (6, .int .i64 i), (7, .int .i64 (rd a i)), (14, .slice A_a a.length c_a), (15, .int .i64 ((a.length : Nat) : Int)), (16, .int .i64 i), (34, .bool (decide ((((rd a i) < 0) ∨ (((a.length : Nat) : Int) ≤ (rd a i))) ∨ (rdb E (rd a i) = true))))] [⟨4, 1, (some ⟨g_2, 0, none⟩), a.length, a.length, bools E, false⟩, ⟨3, 1, (some ⟨g_1, 0, none⟩), a.length, a.length, ints .i64 V, false⟩] ?_ ?_
    ·
      refine wr_case 29 rfl (fun hc3 => ?_) (fun hc3 => ?_)
      ·
        refine wr_no rfl rfl rfl rfl ?_
        refine wr_no rfl rfl rfl rfl ?_
        refine wr_no rfl rfl rfl rfl ?_
        refine wr_no rfl rfl rfl rfl ?_
        refine wr_y rfl (y_pickT rfl rfl) ?_
        refine wr_nil ?_
        exact ⟨(Sub.cons rfl (Sub.cons rfl (Sub.cons rfl (Sub.cons rfl (Sub.cons rfl (Sub.cons rfl (Sub.cons rfl (Sub.cons rfl (Sub.to rfl (mb_t (by first | omega | exact ⟨fun h => ⟨(by assumption), h⟩, fun h => h.2⟩ | simp [*])) Sub.nil))))))))), fun _ h => h⟩
      ·
        refine wr_yes rfl rfl ?_
        refine wr_y rfl (y_move rfl) ?_
        refine wr_yes rfl rfl ?_
        refine wr_y rfl (y_move rfl) ?_
        refine wr_yes rfl rfl ?_
        refine wr_y rfl (y_index1 Try.underlying81 sz4 rfl rfl (rdr 0 rfl) (by omega) (by omega)) ?_
        refine wr_yes rfl rfl ?_
        refine wr_y rfl (y_ldB Try.underlying4 rfl rfl (rdr 0 rfl) (by omega) (by omega)) ?_
        refine wr_y rfl (y_pickF rfl rfl) ?_
        refine wr_nil ?_
        exact ⟨(Sub.cons rfl (Sub.cons rfl (Sub.cons rfl (Sub.cons rfl (Sub.cons rfl (Sub.cons rfl (Sub.cons rfl (Sub.cons rfl (Sub.to rfl (mb (by first | omega | exact ⟨fun h => ⟨(by assumption), h⟩, fun h => h.2⟩ | simp [*])) Sub.nil))))))))), fun _ h => h⟩
    refine wr_nil ?_
    refine w_if rfl (fun hc4 => ?_) (fun hc4 => ?_)
    ·
      refine w_seq ?_
      refine w_reg ?_
      refine wr_y rfl (y_assign rfl) ?_
      refine wr_y rfl (y_assign rfl) ?_
      refine wr_nil ?_
      refine w_retR (R1 := []) (fun _ h => h.sel [] (by decide) rfl) ?_
      refine ⟨_, _, rfl, rfl, ?_⟩
      rfl
    ·
      have ha : 0 ≤ rd a i ∧ rd a i < a.length := ⟨by have h1 := fun h => hc4 (.inl (.inl h)); omega, by have h2 := fun h => hc4 (.inl (.inr h)); omega⟩
      have hnx : rd a i ∉ a.take i.toNat := fun h => hc4 (.inr ((hE _ ha.1 ha.2).2 h))
      refine w_skip ?_
      refine w_reg ?_
      refine wr_y rfl (y_move rfl) ?_
      refine wr_y rfl (y_move rfl) ?_
      refine wr_y rfl (y_move rfl) ?_
      refine wr_y rfl (y_move rfl) ?_
      refine wr_y rfl (y_move rfl) ?_
      refine wr_y rfl (y_index1 Try.underlying23 sz3 rfl rfl (rdr 1 rfl) (by omega) (by omega)) ?_
      refine wr_n (a_storeI 1 rfl sz3 rfl rfl (by omega) (by omega)) ?_
      rintro _ _ rfl
      refine wr_rows (R1 := [⟨4, 1, (some ⟨g_2, 0, none⟩), a.length, a.length, bools E, false⟩, ⟨3, 1, (some ⟨g_1, 0, none⟩), a.length, a.length, ints .i64 (upd V (rd a i) i), false⟩]) rfl ?_
      refine wr_y rfl (y_index1 Try.underlying81 sz4 rfl rfl (rdr 0 rfl) (by omega) (by omega)) ?_
      refine wr_n (a_storeB 0 rfl sz4 rfl rfl (by omega) (by omega)) ?_
      rintro _ _ rfl
      refine wr_rows (R1 := [⟨4, 1, (some ⟨g_2, 0, none⟩), a.length, a.length, bools (updB E (rd a i) true), false⟩, ⟨3, 1, (some ⟨g_1, 0, none⟩), a.length, a.length, ints .i64 (upd V (rd a i) i), false⟩]) rfl ?_
      refine wr_nil ?_
      refine w_reg ?_
      refine wr_y rfl (y_addI rfl rfl (by omega)) ?_
      refine wr_y rfl (y_move rfl) ?_
      refine wr_nil ?_
      exact ⟨i + 1, upd V (rd a i) i, updB E (rd a i) true, ⟨(by omega), (by omega), (by rw [upd_length]; exact hVl), (by rw [updB_len]; exact hEl), (seen_step hi0 (by omega) hEl ha hE), (by rw [take_rd hi0 (by omega)]; exact List.nodup_append.2 ⟨hn, by simp, fun x hx y hy e => by obtain rfl := List.mem_singleton.1 hy; subst e; exact hnx hx⟩), (by rw [take_rd hi0 (by omega)]; intro x hx; rcases List.mem_append.1 hx with hx | hx; exact hr x hx; obtain rfl := List.mem_singleton.1 hx; exact ha)⟩, (by omega), (Sub.cons rfl (Sub.cons rfl (Sub.cons rfl (Sub.cons rfl (Sub.cons rfl (Sub.cons rfl Sub.nil)))))), fun _ h => h⟩
  ·
    refine w_exit ?_
    refine w_seq ?_
    refine w_reg ?_
    refine wr_y rfl (y_move rfl) ?_
    refine wr_y rfl (y_assign rfl) ?_
    refine wr_y rfl (y_assign rfl) ?_
    refine wr_nil ?_
    refine w_retR (R1 := []) (fun _ h => h.sel [] (by decide) rfl) ?_
    refine ⟨_, _, rfl, rfl, ?_⟩
    exact absurd (bperm_of (by rw [List.take_of_length_le (by omega)] at hn; exact hn) (by rw [List.take_of_length_le (by omega)] at hr; exact hr)) hnp

/-! whorl/rank.Is -/
set_option maxRecDepth 100000 in
theorem ris_ct {w : World} {A_a : Option Addr} {n_a c_a : Nat} {a : List Int} (h_a : Rd w A_a n_a c_a 1 (ints .i64 a)) (hp : a.Perm (iota a.length)) (hN : a.length ≤ 1000000) :
    Ct Try.prog 25 #[.slice A_a n_a c_a] w.heap.size w [] (fun v R' => v = .bool true) := by
  obtain rfl := h_a.lenI
  refine fn1 Try.func25 rfl rfl rfl ?_
  have m_a := h_a.max
  refine w_seq ?_
  refine w_reg ?_
  refine wr_y rfl (y_assign rfl) ?_
  refine wr_nil ?_
  refine w_seq ?_
  refine w_reg ?_
  refine wr_y rfl (y_move rfl) ?_
  refine wr_a rfl (a_callF en39 rfl (Ct.fresh (fun w hw => rinv_ct ((h_a.c _) w hw) hp hN))) ?_
  rintro _ _ ⟨_, rfl, A_1, c_2, inv, rfl, hl_inv, hq_inv, rfl⟩
  refine wr_y rfl (y_move rfl) ?_
  refine wr_y rfl (y_extract rfl rfl) ?_
  refine wr_y rfl (y_extract rfl rfl) ?_
  refine wr_y rfl (y_assign rfl) ?_
  refine wr_y rfl (y_assign rfl) ?_
  refine wr_nil ?_
  refine w_seq ?_
  refine w_reg ?_
  refine wr_y rfl (y_move rfl) ?_
  refine wr_y rfl (y_assign rfl) ?_
  refine wr_nil ?_
  refine w_retR (R1 := []) (fun _ h => h.sel [] (by decide) rfl) ?_
  refine ⟨_, rfl, ?_⟩
  rfl

/-! whorl/rank.Is -/
set_option maxRecDepth 100000 in
theorem risNo_ct {w : World} {A_a : Option Addr} {n_a c_a : Nat} {a : List Int} (h_a : Rd w A_a n_a c_a 1 (ints .i64 a)) (hnp : ¬ a.Perm (iota a.length)) (hN : a.length ≤ 1000000) :
    Ct Try.prog 25 #[.slice A_a n_a c_a] w.heap.size w [] (fun v R' => v = .bool false) := by
  obtain rfl := h_a.lenI
  refine fn1 Try.func25 rfl rfl rfl ?_
  have m_a := h_a.max
  refine w_seq ?_
  refine w_reg ?_
  refine wr_y rfl (y_assign rfl) ?_
  refine wr_nil ?_
  refine w_seq ?_
  refine w_reg ?_
  refine wr_y rfl (y_move rfl) ?_
  refine wr_a rfl (a_callF en39 rfl (Ct.quiet (fun w hw => rinvNo_ct ((h_a.c _) w hw) hnp hN))) ?_
  rintro _ _ ⟨rfl, rfl⟩
  refine wr_y rfl (y_move rfl) ?_
  refine wr_y rfl (y_extract rfl rfl) ?_
  refine wr_y rfl (y_extract rfl rfl) ?_
  refine wr_y rfl (y_assign rfl) ?_
  refine wr_y rfl (y_assign rfl) ?_
  refine wr_nil ?_
  refine w_seq ?_
  refine w_reg ?_
  refine wr_y rfl (y_move rfl) ?_
  refine wr_y rfl (y_assign rfl) ?_
  refine wr_nil ?_
  refine w_ret ?_
  refine ⟨_, rfl, ?_⟩
  rfl

/-! whorl/bwt.Of -/
set_option maxRecDepth 100000 in
set_option maxHeartbeats 800000 in
theorem bof_ct {w : World} {A_u : Option Addr} {n_u c_u : Nat} {u : List Int} {A_a : Option Addr} {n_a c_a : Nat} {a : List Int} (h_u : Rd w A_u n_u c_u 1 (ints .u8 u)) (h_a : Rd w A_a n_a c_a 1 (ints .i64 a)) (hp : a.Perm (iota u.length)) (hN : u.length ≤ 1000000) :
    Ct Try.prog 11 #[.slice A_u n_u c_u, .slice A_a n_a c_a] w.heap.size w [] (fun v R' => ∃ A c, v = .tuple #[.slice A (ofL u a).length c, .int .i64 (zat a), .bool true] ∧ R' = [⟨5, 1, A, (ofL u a).length, c, ints .u8 (ofL u a), false⟩]) := by
  obtain rfl := h_u.lenI
  obtain rfl := h_a.lenI
  refine fn3 Try.func11 rfl rfl rfl ?_
  have m_u := h_u.max
  have m_a := h_a.max
  have hal0 : a.length = u.length := by rw [hp.length_eq, iota_len]
  have hnd : a.Nodup := hp.symm.nodup (iota_nodup _)
  have hpa : a.Perm (iota a.length) := by rw [hal0]; exact hp
  refine w_seq ?_
  refine w_reg ?_
  refine wr_y rfl (y_assign rfl) ?_
  refine wr_y rfl (y_assign rfl) ?_
  refine wr_y rfl (y_assign rfl) ?_
  refine wr_nil ?_
  refine w_seq ?_
  refine w_seq ?_
  refine w_reg ?_
  refine wr_y rfl (y_move rfl) ?_
  refine wr_y rfl (y_len Try.underlying23 rfl) ?_
  refine wr_y rfl (y_move rfl) ?_
  refine wr_y rfl (y_len Try.underlying22 rfl) ?_
  refine wr_y rfl (Yl.f (y_ne rfl rfl) (by omega)) ?_
  refine wr_y rfl (y_move rfl) ?_
  refine wr_yes rfl rfl ?_
  refine wr_y rfl (y_move rfl) ?_
  refine wr_yes rfl rfl ?_
  refine wr_a rfl (a_callF en25 rfl (Ct.quiet (fun w hw => ris_ct ((h_a.c _) w hw) hpa (by omega)))) ?_
  rintro _ _ ⟨rfl, rfl⟩
  refine wr_yes rfl rfl ?_
  refine wr_y rfl (y_not rfl) ?_
  refine wr_y rfl (y_pickF rfl rfl) ?_
  refine wr_nil ?_
  refine w_false rfl ?_
  refine w_skip ?_
  refine w_seq ?_
  refine w_reg ?_
  refine wr_a rfl (a_litI .u8 [] Try.underlying22 zs5 rfl rfl rfl) ?_
  rintro _ _ ⟨g_2, rfl, rfl⟩
  refine wr_y rfl (y_assign rfl) ?_
  refine wr_nil ?_
  refine w_seq ?_
  refine w_seq ?_
  refine w_reg ?_
  refine wr_y rfl (y_move rfl) ?_
  refine wr_y rfl (y_len Try.underlying22 rfl) ?_
  refine wr_y rfl (y_gt rfl rfl) ?_
  refine wr_nil ?_
  refine w_if rfl (fun hc1 => ?_) (fun hc1 => ?_)
  ·
    refine w_reg ?_
    refine wr_y rfl (y_move rfl) ?_
    refine wr_y rfl (y_move rfl) ?_
    refine wr_y rfl (y_move rfl) ?_
    refine wr_y rfl (y_len Try.underlying22 rfl) ?_
    refine wr_y rfl (y_subI rfl rfl (by omega)) ?_
    refine wr_y rfl (y_index1 Try.underlying22 sz5 rfl rfl (h_u.c _) (by omega) (by omega)) ?_
    refine wr_y rfl (y_ldI Try.underlying5 rfl rfl (h_u.c _) (by omega) (by omega)) ?_
    refine wr_a rfl (a_litI .u8 [rd u (((u.length : Nat) : Int) - 1)] Try.underlying22 zs5 rfl rfl rfl) ?_
    rintro _ _ ⟨g_5, rfl, rfl⟩
    refine wr_a rfl (a_appendI 1 rfl Try.underlying22 zb5 rfl rfl rfl (rdr 0 rfl) (by omega)) ?_
    rintro _ _ ⟨A_6, c_7, rfl, rfl⟩
    refine wr_rows (R1 := [⟨5, 1, (some ⟨g_5, 0, none⟩), 1, 1, ints .u8 ([rd u (((u.length : Nat) : Int) - 1)]), false⟩, ⟨5, 1, A_6, (0 + 1), c_7, ints .u8 (([]) ++ ([rd u (((u.length : Nat) : Int) - 1)])), false⟩]) rfl ?_
    refine wr_as (v := .slice A_6 (0 + 1) c_7) rfl ?_
    refine wr_y rfl (y_assign rfl) ?_
    refine wr_nil ?_
    refine w_seq ?_
    refine w_seq ?_
    refine w_reg ?_
    refine wr_y rfl (y_move rfl) ?_
    refine wr_y rfl (y_len Try.underlying23 rfl) ?_
    refine wr_y rfl (y_move rfl) ?_
    refine wr_nil ?_
    refine w_block ?_
    refine w_loop6 (fun (i : Int) (A1 : Option Addr) (n1 : Nat) (c1 : Nat) (acc : List Int) (m : Int) => [(0, .slice A_u u.length c_u), (4, .slice A1 n1 c1), (5, .int .i64 m), (32, .slice A_a a.length c_a), (33, .int .i64 ((a.length : Nat) : Int)), (34, .int .i64 i)]) (fun (i : Int) (A1 : Option Addr) (n1 : Nat) (c1 : Nat) (acc : List Int) (m : Int) => [⟨5, 1, (some ⟨g_5, 0, none⟩), 1, 1, ints .u8 ([rd u (((u.length : Nat) : Int) - 1)]), false⟩, ⟨5, 1, A1, n1, c1, ints .u8 acc, false⟩]) (fun (i : Int) (A1 : Option Addr) (n1 : Nat) (c1 : Nat) (acc : List Int) (m : Int) => (0 ≤ i) ∧ (i ≤ a.length) ∧ (n1 = acc.length) ∧ (acc = (if 0 < u.length then [rd u (u.length - 1)] else []) ++ ofT u (a.take i.toNat)) ∧ (m = zat (a.take i.toNat))) (fun (i : Int) (A1 : Option Addr) (n1 : Nat) (c1 : Nat) (acc : List Int) (m : Int) => (a.length - i).toNat) ?_ ?_
    ·
      exact ⟨0, A_6, 0 + 1, c_7, ([]) ++ ([rd u (((u.length : Nat) : Int) - 1)]), 0, ⟨(by omega), (by omega), (by first | rfl | simp), (by first | (rw [if_pos (by omega)]; rfl) | (rw [if_neg (by omega)]; rfl)), (rfl)⟩, (Sub.cons rfl (Sub.cons rfl (Sub.cons rfl (Sub.cons rfl (Sub.cons rfl (Sub.cons rfl Sub.nil)))))), fun _ h => h⟩
    intro i A1 n1 c1 acc m ⟨hi0, hi1, hn1, hacc, hm⟩
    have hal : acc.length ≤ i.toNat + 1 := by
      have h1 := ofT_len u (a.take i.toNat)
      rw [List.length_take] at h1
      rw [hacc, List.length_append]
      split <;> simp only [List.length_cons, List.length_nil] <;> omega
    have hai : i < a.length → 0 ≤ rd a i ∧ rd a i < u.length := fun h => mem_iota.1 (hp.subset (rd_mem hi0 h))
    refine w_seq ?_
    refine w_reg ?_
    refine wr_y rfl (y_lt rfl rfl) ?_
    refine wr_nil ?_
    refine w_seq ?_
    refine w_if rfl (fun hc2 => ?_) (fun hc2 => ?_)
    ·
      have hai2 := hai (by omega)
      refine w_skip ?_
      refine w_seq ?_
      refine w_block ?_
      refine w_seq ?_
      refine w_reg ?_
      refine wr_y rfl (y_move rfl) ?_
      refine wr_y rfl (y_index1 Try.underlying23 sz3 rfl rfl (h_a.c _) (by omega) (by omega)) ?_
      refine wr_y rfl (y_ldI Try.underlying3 rfl rfl (h_a.c _) (by omega) (by omega)) ?_
      refine wr_y rfl (y_assign rfl) ?_
      refine wr_y rfl (y_assign rfl) ?_
      refine wr_nil ?_
      refine w_seq ?_
      refine w_seq ?_
      refine w_reg ?_
      refine wr_y rfl (y_move rfl) ?_
      refine wr_y rfl (y_eq rfl rfl) ?_
      refine wr_nil ?_
      refine w_if rfl (fun hc3 => ?_) (fun hc3 => ?_)
      ·
        refine w_seq ?_
        refine w_reg ?_
        refine wr_y rfl (y_move rfl) ?_
        refine wr_y rfl (y_addI rfl rfl (by omega)) ?_
        refine wr_y rfl (y_assign rfl) ?_
        refine wr_nil ?_
        refine w_exit ?_
        refine w_reg ?_
        refine wr_y rfl (y_addI rfl rfl (by omega)) ?_
        refine wr_y rfl (y_move rfl) ?_
        refine wr_nil ?_
        exact ⟨i + 1, A1, n1, c1, acc, i + 1, ⟨(by omega), (by omega), (hn1), (ofT_yes hi0 (by omega) hacc (by assumption)), (zat_yes hnd hi0 (by omega) (by assumption))⟩, (by omega), (Sub.cons rfl (Sub.cons rfl (Sub.cons rfl (Sub.cons rfl (Sub.cons rfl (Sub.cons rfl Sub.nil)))))), fun _ h => h⟩
      ·
        refine w_skip ?_
        refine w_reg ?_
        refine wr_y rfl (y_move rfl) ?_
        refine wr_y rfl (y_move rfl) ?_
        refine wr_y rfl (y_move rfl) ?_
        refine wr_y rfl (y_subI rfl rfl (by omega)) ?_
        refine wr_y rfl (y_index1 Try.underlying22 sz5 rfl rfl (h_u.c _) (by omega) (by omega)) ?_
        refine wr_y rfl (y_ldI Try.underlying5 rfl rfl (h_u.c _) (by omega) (by omega)) ?_
        refine wr_a rfl (a_litI .u8 [rd u ((rd a i) - 1)] Try.underlying22 zs5 rfl rfl rfl) ?_
        rintro _ _ ⟨g_9, rfl, rfl⟩
        refine wr_a rfl (a_appendI 2 rfl Try.underlying22 zb5 rfl rfl rfl (rdr 0 rfl) (by omega)) ?_
        rintro _ _ ⟨A_10, c_11, rfl, rfl⟩
        refine wr_rows (R1 := [⟨5, 1, (some ⟨g_9, 0, none⟩), 1, 1, ints .u8 ([rd u ((rd a i) - 1)]), false⟩, ⟨5, 1, (some ⟨g_5, 0, none⟩), 1, 1, ints .u8 ([rd u (((u.length : Nat) : Int) - 1)]), false⟩, ⟨5, 1, A_10, (n1 + 1), c_11, ints .u8 (acc ++ ([rd u ((rd a i) - 1)])), false⟩]) rfl ?_
        refine wr_as (v := .slice A_10 (n1 + 1) c_11) rfl ?_
        refine wr_y rfl (y_assign rfl) ?_
        refine wr_nil ?_
        refine w_reg ?_
        refine wr_y rfl (y_addI rfl rfl (by omega)) ?_
        refine wr_y rfl (y_move rfl) ?_
        refine wr_nil ?_
        exact ⟨i + 1, A_10, n1 + 1, c_11, acc ++ ([rd u ((rd a i) - 1)]), m, ⟨(by omega), (by omega), (by rw [List.length_append, hn1]; rfl), (ofT_no hi0 (by omega) hacc (by assumption)), (zat_no hnd hi0 (by omega) hm (by assumption))⟩, (by omega), (Sub.cons rfl (Sub.cons rfl (Sub.cons rfl (Sub.cons rfl (Sub.cons rfl (Sub.cons rfl Sub.nil)))))), fun _ h => h.sel [1, 2] (by decide) rfl⟩
    ·
      refine w_exit ?_
      refine w_seq ?_
      refine w_reg ?_
      refine wr_y rfl (y_move rfl) ?_
      refine wr_y rfl (y_move rfl) ?_
      refine wr_y rfl (y_assign rfl) ?_
      refine wr_y rfl (y_assign rfl) ?_
      refine wr_y rfl (y_assign rfl) ?_
      refine wr_nil ?_
      refine w_retR (R1 := [⟨5, 1, A1, n1, c1, ints .u8 acc, false⟩]) (fun _ h => h.sel [1] (by decide) rfl) ?_
      refine ⟨_, _, _, rfl, rfl, rfl, ?_⟩
      have hte : a.take i.toNat = a := List.take_of_length_le (by omega)
      rw [hte] at hacc hm
      obtain rfl : acc = ofL u a := hacc
      obtain rfl := hn1
      subst hm
      exact ⟨_, _, rfl, rfl⟩
  ·
    refine w_skip ?_
    refine w_seq ?_
    refine w_seq ?_
    refine w_reg ?_
    refine wr_y rfl (y_move rfl) ?_
    refine wr_y rfl (y_len Try.underlying23 rfl) ?_
    refine wr_y rfl (y_move rfl) ?_
    refine wr_nil ?_
    refine w_block ?_
    refine w_loop6 (fun (i : Int) (A1 : Option Addr) (n1 : Nat) (c1 : Nat) (acc : List Int) (m : Int) => [(0, .slice A_u u.length c_u), (4, .slice A1 n1 c1), (5, .int .i64 m), (32, .slice A_a a.length c_a), (33, .int .i64 ((a.length : Nat) : Int)), (34, .int .i64 i)]) (fun (i : Int) (A1 : Option Addr) (n1 : Nat) (c1 : Nat) (acc : List Int) (m : Int) => [⟨5, 1, A1, n1, c1, ints .u8 acc, false⟩]) (fun (i : Int) (A1 : Option Addr) (n1 : Nat) (c1 : Nat) (acc : List Int) (m : Int) => (0 ≤ i) ∧ (i ≤ a.length) ∧ (n1 = acc.length) ∧ (acc = (if 0 < u.length then [rd u (u.length - 1)] else []) ++ ofT u (a.take i.toNat)) ∧ (m = zat (a.take i.toNat))) (fun (i : Int) (A1 : Option Addr) (n1 : Nat) (c1 : Nat) (acc : List Int) (m : Int) => (a.length - i).toNat) ?_ ?_
    ·
      exact ⟨0, some ⟨g_2, 0, none⟩, 0, 0, [], 0, ⟨(by omega), (by omega), (by first | rfl | simp), (by first | (rw [if_pos (by omega)]; rfl) | (rw [if_neg (by omega)]; rfl)), (rfl)⟩, (Sub.cons rfl (Sub.cons rfl (Sub.cons rfl (Sub.cons rfl (Sub.cons rfl (Sub.cons rfl Sub.nil)))))), fun _ h => h⟩
    intro i A1 n1 c1 acc m ⟨hi0, hi1, hn1, hacc, hm⟩
    have hal : acc.length ≤ i.toNat + 1 := by
      have h1 := ofT_len u (a.take i.toNat)
      rw [List.length_take] at h1
      rw [hacc, List.length_append]
      split <;> simp only [List.length_cons, List.length_nil] <;> omega
    have hai : i < a.length → 0 ≤ rd a i ∧ rd a i < u.length := fun h => mem_iota.1 (hp.subset (rd_mem hi0 h))
    refine w_seq ?_
    refine w_reg ?_
    refine wr_y rfl (y_lt rfl rfl) ?_
    refine wr_nil ?_
    refine w_seq ?_
    refine w_if rfl (fun hc4 => ?_) (fun hc4 => ?_)
    ·
      have hai2 := hai (by omega)
      refine w_skip ?_
      refine w_seq ?_
      refine w_block ?_
      refine w_seq ?_
      refine w_reg ?_
      refine wr_y rfl (y_move rfl) ?_
      refine wr_y rfl (y_index1 Try.underlying23 sz3 rfl rfl (h_a.c _) (by omega) (by omega)) ?_
      refine wr_y rfl (y_ldI Try.underlying3 rfl rfl (h_a.c _) (by omega) (by omega)) ?_
      refine wr_y rfl (y_assign rfl) ?_
      refine wr_y rfl (y_assign rfl) ?_
      refine wr_nil ?_
      refine w_seq ?_
      refine w_seq ?_
      refine w_reg ?_
      refine wr_y rfl (y_move rfl) ?_
      refine wr_y rfl (y_eq rfl rfl) ?_
      refine wr_nil ?_
      refine w_if rfl (fun hc5 => ?_) (fun hc5 => ?_)
      ·
        refine w_seq ?_
        refine w_reg ?_
        refine wr_y rfl (y_move rfl) ?_
        refine wr_y rfl (y_addI rfl rfl (by omega)) ?_
        refine wr_y rfl (y_assign rfl) ?_
        refine wr_nil ?_
        refine w_exit ?_
        refine w_reg ?_
        refine wr_y rfl (y_addI rfl rfl (by omega)) ?_
        refine wr_y rfl (y_move rfl) ?_
        refine wr_nil ?_
        exact ⟨i + 1, A1, n1, c1, acc, i + 1, ⟨(by omega), (by omega), (hn1), (ofT_yes hi0 (by omega) hacc (by assumption)), (zat_yes hnd hi0 (by omega) (by assumption))⟩, (by omega), (Sub.cons rfl (Sub.cons rfl (Sub.cons rfl (Sub.cons rfl (Sub.cons rfl (Sub.cons rfl Sub.nil)))))), fun _ h => h⟩
      ·
        refine w_skip ?_
        refine w_reg ?_
        refine wr_y rfl (y_move rfl) ?_
        refine wr_y rfl (y_move rfl) ?_
        refine wr_y rfl (y_move rfl) ?_
        refine wr_y rfl (y_subI rfl rfl (by omega)) ?_
        refine wr_y rfl (y_index1 Try.underlying22 sz5 rfl rfl (h_u.c _) (by omega) (by omega)) ?_
        refine wr_y rfl (y_ldI Try.underlying5 rfl rfl (h_u.c _) (by omega) (by omega)) ?_
        refine wr_a rfl (a_litI .u8 [rd u ((rd a i) - 1)] Try.underlying22 zs5 rfl rfl rfl) ?_
        rintro _ _ ⟨g_13, rfl, rfl⟩
        refine wr_a rfl (a_appendI 1 rfl Try.underlying22 zb5 rfl rfl rfl (rdr 0 rfl) (by omega)) ?_
        rintro _ _ ⟨A_14, c_15, rfl, rfl⟩
        refine wr_rows (R1 := [⟨5, 1, (some ⟨g_13, 0, none⟩), 1, 1, ints .u8 ([rd u ((rd a i) - 1)]), false⟩, ⟨5, 1, A_14, (n1 + 1), c_15, ints .u8 (acc ++ ([rd u ((rd a i) - 1)])), false⟩]) rfl ?_
        refine wr_as (v := .slice A_14 (n1 + 1) c_15) rfl ?_
        refine wr_y rfl (y_assign rfl) ?_
        refine wr_nil ?_
        refine w_reg ?_
        refine wr_y rfl (y_addI rfl rfl (by omega)) ?_
        refine wr_y rfl (y_move rfl) ?_
        refine wr_nil ?_
        exact ⟨i + 1, A_14, n1 + 1, c_15, acc ++ ([rd u ((rd a i) - 1)]), m, ⟨(by omega), (by omega), (by rw [List.length_append, hn1]; rfl), (ofT_no hi0 (by omega) hacc (by assumption)), (zat_no hnd hi0 (by omega) hm (by assumption))⟩, (by omega), (Sub.cons rfl (Sub.cons rfl (Sub.cons rfl (Sub.cons rfl (Sub.cons rfl (Sub.cons rfl Sub.nil)))))), fun _ h => h.sel [1] (by decide) rfl⟩
    ·
      refine w_exit ?_
      refine w_seq ?_
      refine w_reg ?_
      refine wr_y rfl (y_move rfl) ?_
      refine wr_y rfl (y_move rfl) ?_
      refine wr_y rfl (y_assign rfl) ?_
      refine wr_y rfl (y_assign rfl) ?_
      refine wr_y rfl (y_assign rfl) ?_
      refine wr_nil ?_
      refine w_retR (R1 := [⟨5, 1, A1, n1, c1, ints .u8 acc, false⟩]) (fun _ h => h.sel [0] (by decide) rfl) ?_
      refine ⟨_, _, _, rfl, rfl, rfl, ?_⟩
      have hte : a.take i.toNat = a := List.take_of_length_le (by omega)
      rw [hte] at hacc hm
      obtain rfl : acc = ofL u a := hacc
      obtain rfl := hn1
      subst hm
      exact ⟨_, _, rfl, rfl⟩

/-! whorl/bwt.Of -/
set_option maxRecDepth 100000 in
theorem bofNo_ct {w : World} {A_u : Option Addr} {n_u c_u : Nat} {u : List Int} {A_a : Option Addr} {n_a c_a : Nat} {a : List Int} (h_u : Rd w A_u n_u c_u 1 (ints .u8 u)) (h_a : Rd w A_a n_a c_a 1 (ints .i64 a)) (hnp : ¬ a.Perm (iota u.length)) (hN : u.length ≤ 1000000) :
    Ct Try.prog 11 #[.slice A_u n_u c_u, .slice A_a n_a c_a] w.heap.size w [] (fun v R' => v = .tuple #[.slice none 0 0, .int .i64 0, .bool false]) := by
  obtain rfl := h_u.lenI
  obtain rfl := h_a.lenI
  refine fn3 Try.func11 rfl rfl rfl ?_
  have m_u := h_u.max
  have m_a := h_a.max
  refine w_seq ?_
  refine w_reg ?_
  refine wr_y rfl (y_assign rfl) ?_
  refine wr_y rfl (y_assign rfl) ?_
  refine wr_y rfl (y_assign rfl) ?_
  refine wr_nil ?_
  refine w_seq ?_
  refine w_seq ?_
  refine w_reg ?_
  refine wr_y rfl (y_move rfl) ?_
  refine wr_y rfl (y_len Try.underlying23 rfl) ?_
  refine wr_y rfl (y_move rfl) ?_
  refine wr_y rfl (y_len Try.underlying22 rfl) ?_
  refine wr_y rfl (y_ne rfl rfl) ?_
  refine wr_y rfl (y_move rfl) ?_
  refine wr_mid 4 [(0, .slice A_u u.length c_u), (1, .slice A_a a.length c_a), (5, .int .i64 0), (18, .bool true)] [] ?_ ?_
  ·
    refine wr_case 14 rfl (fun hc1 => ?_) (fun hc1 => ?_)
    ·
      refine wr_no rfl rfl rfl rfl ?_
      refine wr_no rfl rfl rfl rfl ?_
      refine wr_no rfl rfl rfl rfl ?_
      refine wr_y rfl (y_pickT rfl rfl) ?_
      refine wr_nil ?_
      exact ⟨(Sub.cons rfl (Sub.cons rfl (Sub.cons rfl (Sub.cons rfl Sub.nil)))), fun _ h => h⟩
    ·
      refine wr_yes rfl rfl ?_
      refine wr_y rfl (y_move rfl) ?_
      refine wr_yes rfl rfl ?_
      refine wr_a rfl (a_callF en25 rfl (Ct.quiet (fun w hw => risNo_ct ((h_a.c _) w hw) (fun h => hnp (by have e : a.length = u.length := (by omega); rw [← e]; exact h)) (by omega)))) ?_
      rintro _ _ ⟨rfl, rfl⟩
      refine wr_yes rfl rfl ?_
      refine wr_y rfl (y_not rfl) ?_
      refine wr_y rfl (y_pickF rfl rfl) ?_
      refine wr_nil ?_
      exact ⟨(Sub.cons rfl (Sub.cons rfl (Sub.cons rfl (Sub.cons rfl Sub.nil)))), fun _ h => h⟩
  refine wr_nil ?_
  refine w_true rfl ?_
  refine w_seq ?_
  refine w_reg ?_
  refine wr_y rfl (y_assign rfl) ?_
  refine wr_y rfl (y_assign rfl) ?_
  refine wr_y rfl (y_assign rfl) ?_
  refine wr_nil ?_
  refine w_ret ?_
  refine ⟨_, _, _, rfl, rfl, rfl, ?_⟩
  rfl

/-! whorl/bwt.Turn -/
set_option maxRecDepth 100000 in
theorem bturn_ct {w : World} {A_u : Option Addr} {n_u c_u : Nat} {u : List Int} (h_u : Rd w A_u n_u c_u 1 (ints .u8 u)) (bh_u : ByteL u) (hN : u.length ≤ 100000) :
    Ct Try.prog 14 #[.slice A_u n_u c_u] w.heap.size w [] (fun v R' => ∃ (b : List Int) (A : Option Addr) (c : Nat), v = .tuple #[.slice A (ofL u b).length c, .int .i64 (zat b), .int .i64 0] ∧ b.Perm (iota u.length) ∧ b.Pairwise (ordE u) ∧ R' = [⟨5, 1, A, (ofL u b).length, c, ints .u8 (ofL u b), false⟩]) := by
  obtain rfl := h_u.lenI
  refine fn3 Try.func14 rfl rfl rfl ?_
  have m_u := h_u.max
  refine w_seq ?_
  refine w_reg ?_
  refine wr_y rfl (y_assign rfl) ?_
  refine wr_y rfl (y_assign rfl) ?_
  refine wr_y rfl (y_assign rfl) ?_
  refine wr_nil ?_
  refine w_seq ?_
  refine w_reg ?_
  refine wr_y rfl (y_move rfl) ?_
  refine wr_a rfl (a_callF en27 rfl (Ct.fresh (fun w hw => sbytes_ct ((h_u.c _) w hw) bh_u hN))) ?_
  rintro _ _ ⟨_, rfl, a1, A_1, c_2, rfl, hp_a1, hs_a1, rfl⟩
  refine wr_y rfl (y_move rfl) ?_
  refine wr_y rfl (y_extract rfl rfl) ?_
  refine wr_y rfl (y_extract rfl rfl) ?_
  refine wr_y rfl (y_assign rfl) ?_
  refine wr_y rfl (y_assign rfl) ?_
  refine wr_nil ?_
  refine w_seq ?_
  refine w_seq ?_
  refine w_reg ?_
  refine wr_y rfl (y_move rfl) ?_
  refine wr_y rfl (Yl.f (y_ne rfl rfl) (by omega)) ?_
  refine wr_nil ?_
  refine w_false rfl ?_
  refine w_skip ?_
  refine w_seq ?_
  refine w_reg ?_
  refine wr_y rfl (y_move rfl) ?_
  refine wr_y rfl (y_move rfl) ?_
  refine wr_a rfl (a_callF en11 rfl (Ct.fresh (fun w hw => bof_ct ((h_u.c _) w hw) ((rdr 0 rfl) w hw) hp_a1 (by omega)))) ?_
  rintro _ _ ⟨_, rfl, A_4, c_5, rfl, rfl⟩
  refine wr_y rfl (y_move rfl) ?_
  refine wr_y rfl (y_extract rfl rfl) ?_
  refine wr_y rfl (y_extract rfl rfl) ?_
  refine wr_y rfl (y_extract rfl rfl) ?_
  refine wr_y rfl (y_assign rfl) ?_
  refine wr_y rfl (y_assign rfl) ?_
  refine wr_nil ?_
  refine w_seq ?_
  refine w_reg ?_
  refine wr_y rfl (y_move rfl) ?_
  refine wr_y rfl (y_move rfl) ?_
  refine wr_y rfl (y_assign rfl) ?_
  refine wr_y rfl (y_assign rfl) ?_
  refine wr_y rfl (y_assign rfl) ?_
  refine wr_nil ?_
  refine w_retR (R1 := [⟨5, 1, A_4, (ofL u a1).length, c_5, ints .u8 (ofL u a1), false⟩]) (fun _ h => h.sel [0] (by decide) rfl) ?_
  refine ⟨_, _, _, rfl, rfl, rfl, ?_⟩
  exact ⟨a1, _, _, rfl, hp_a1, hs_a1, rfl⟩

/-! whorl/bwt.firsts -/
set_option maxRecDepth 100000 in
set_option maxHeartbeats 800000 in
theorem firsts_ct {w : World} {A_u : Option Addr} {n_u c_u : Nat} {u : List Int} (h_u : Rd w A_u n_u c_u 1 (ints .u8 u)) (bh_u : ByteL u) (hN : u.length ≤ 1000000) :
    Ct Try.prog 28 #[.slice A_u n_u c_u] w.heap.size w [] (fun v R' => ∃ A c, v = .slice A (fsL u).length c ∧ R' = [⟨3, 1, A, (fsL u).length, c, ints .i64 (fsL u), false⟩]) := by
  obtain rfl := h_u.lenI
  refine fn1 Try.func28 rfl rfl rfl ?_
  have m_u := h_u.max
  refine w_seq ?_
  refine w_reg ?_
  refine wr_y rfl (y_assign rfl) ?_
  refine wr_nil ?_
  refine w_seq ?_
  refine w_reg ?_
  refine wr_y rfl (y_move rfl) ?_
  refine wr_y rfl (y_len Try.underlying22 rfl) ?_
  refine wr_a rfl (a_makeN Try.underlying23 zb3 rfl rfl (by omega) (by omega) (by omega)) ?_
  rintro _ _ ⟨g_1, rfl, rfl⟩
  refine wr_rows (R1 := [⟨3, 1, (some ⟨g_1, 0, none⟩), u.length, u.length, ints .i64 (List.replicate u.length (0 : Int)), false⟩]) rfl ?_
  refine wr_as (v := .slice (some ⟨g_1, 0, none⟩) u.length u.length) rfl ?_
  refine wr_y rfl (y_assign rfl) ?_
  refine wr_nil ?_
  refine w_seq ?_
  refine w_reg ?_
  refine wr_y rfl (y_move rfl) ?_
  refine wr_y rfl (y_len Try.underlying22 rfl) ?_
  refine wr_a rfl (a_makeN Try.underlying23 zb3 rfl rfl (by omega) (by omega) (by omega)) ?_
  rintro _ _ ⟨g_2, rfl, rfl⟩
  refine wr_rows (R1 := [⟨3, 1, (some ⟨g_2, 0, none⟩), u.length, u.length, ints .i64 (List.replicate u.length (0 : Int)), false⟩, ⟨3, 1, (some ⟨g_1, 0, none⟩), u.length, u.length, ints .i64 (List.replicate u.length (0 : Int)), false⟩]) rfl ?_
  refine wr_as (v := .slice (some ⟨g_2, 0, none⟩) u.length u.length) rfl ?_
  refine wr_y rfl (y_assign rfl) ?_
  refine wr_nil ?_
  refine w_seq ?_
  refine w_seq ?_
  refine w_reg ?_
  refine wr_y rfl (y_move rfl) ?_
  refine wr_y rfl (y_len Try.underlying22 rfl) ?_
  refine wr_y rfl (y_move rfl) ?_
  refine wr_nil ?_
  refine w_block ?_
  refine w_loop3 (fun (i : Int) (V : List Int) (K : List Int) => [(3, .slice (some ⟨g_1, 0, none⟩) u.length u.length), (4, .slice (some ⟨g_2, 0, none⟩) u.length u.length), (15, .slice A_u u.length c_u), (16, .int .i64 ((u.length : Nat) : Int)), (17, .int .i64 i)]) (fun (i : Int) (V : List Int) (K : List Int) => [⟨3, 1, (some ⟨g_2, 0, none⟩), u.length, u.length, ints .i64 K, false⟩, ⟨3, 1, (some ⟨g_1, 0, none⟩), u.length, u.length, ints .i64 V, false⟩]) (fun (i : Int) (V : List Int) (K : List Int) => (0 ≤ i) ∧ (i ≤ u.length) ∧ (V.length = u.length) ∧ (K.length = u.length) ∧ (∀ j : Int, 0 ≤ j → j < i → rd V j = j) ∧ (∀ j : Int, 0 ≤ j → j < i → rd K j = rd u j)) (fun (i : Int) (V : List Int) (K : List Int) => (u.length - i).toNat) ?_ ?_
  ·
    exact ⟨0, List.replicate u.length (0 : Int), List.replicate u.length (0 : Int), ⟨(by omega), (by omega), (by rw [List.length_replicate]), (by rw [List.length_replicate]), (fun j h1 h2 => by omega), (fun j h1 h2 => by omega)⟩, (Sub.cons rfl (Sub.cons rfl (Sub.cons rfl (Sub.cons rfl (Sub.cons rfl Sub.nil))))), fun _ h => h⟩
  intro i V K ⟨hi0, hi1, hVl, hKl, hV, hK⟩
  refine w_seq ?_
  refine w_reg ?_
  refine wr_y rfl (y_lt rfl rfl) ?_
  refine wr_nil ?_
  refine w_seq ?_
  refine w_if rfl (fun hc1 => ?_) (fun hc1 => ?_)
  ·
    have hbi := bh_u.rd i
    refine w_skip ?_
    refine w_seq ?_
    refine w_block ?_
    refine w_seq ?_
    refine w_reg ?_
    refine wr_y rfl (y_move rfl) ?_
    refine wr_y rfl (y_index1 Try.underlying22 sz5 rfl rfl (h_u.c _) (by omega) (by omega)) ?_
    refine wr_y rfl (y_ldI Try.underlying5 rfl rfl (h_u.c _) (by omega) (by omega)) ?_
    refine wr_y rfl (y_assign rfl) ?_
    refine wr_y rfl (y_assign rfl) ?_
    refine wr_nil ?_
    refine w_reg ?_
    refine wr_y rfl (y_move rfl) ?_
    refine wr_y rfl (y_move rfl) ?_
    refine wr_y rfl (y_move rfl) ?_
    refine wr_y rfl (y_move rfl) ?_
    refine wr_y rfl (y_move rfl) ?_
    refine wr_y rfl (y_move rfl) ?_
    refine wr_y rfl (y_convI Try.underlying5 Try.underlying3 rfl (by omega)) ?_
    refine wr_y rfl (y_index1 Try.underlying23 sz3 rfl rfl (rdr 1 rfl) (by omega) (by omega)) ?_
    refine wr_n (a_storeI 1 rfl sz3 rfl rfl (by omega) (by omega)) ?_
    rintro _ _ rfl
    refine wr_rows (R1 := [⟨3, 1, (some ⟨g_2, 0, none⟩), u.length, u.length, ints .i64 K, false⟩, ⟨3, 1, (some ⟨g_1, 0, none⟩), u.length, u.length, ints .i64 (upd V i i), false⟩]) rfl ?_
    refine wr_y rfl (y_index1 Try.underlying23 sz3 rfl rfl (rdr 0 rfl) (by omega) (by omega)) ?_
    refine wr_n (a_storeI 0 rfl sz3 rfl rfl (by omega) (by omega)) ?_
    rintro _ _ rfl
    refine wr_rows (R1 := [⟨3, 1, (some ⟨g_2, 0, none⟩), u.length, u.length, ints .i64 (upd K i (rd u i)), false⟩, ⟨3, 1, (some ⟨g_1, 0, none⟩), u.length, u.length, ints .i64 (upd V i i), false⟩]) rfl ?_
    refine wr_nil ?_
    refine w_reg ?_
    refine wr_y rfl (y_addI rfl rfl (by omega)) ?_
    refine wr_y rfl (y_move rfl) ?_
    refine wr_nil ?_
    exact ⟨i + 1, upd V i i, upd K i (rd u i), ⟨(by omega), (by omega), (by rw [upd_length]; exact hVl), (by rw [upd_length]; exact hKl), (fill_step (f := fun j => j) hi0 (by omega) hV rfl), (fill_step (f := fun j => rd u j) hi0 (by omega) hK rfl)⟩, (by omega), (Sub.cons rfl (Sub.cons rfl (Sub.cons rfl (Sub.cons rfl (Sub.cons rfl Sub.nil))))), fun _ h => h⟩
  ·
    obtain rfl : V = iota u.length := list_ext_rd (by rw [iota_len]; omega) fun j h0 h1 => by rw [rd_iota h0 (by omega)]; exact hV j h0 (by omega)
    obtain rfl : u = K := (list_ext_rd (by omega) fun j h0 h1 => hK j h0 (by omega) : K = u).symm
    refine w_exit ?_
    refine w_seq ?_
    refine w_reg ?_
    refine wr_y rfl (y_move rfl) ?_
    refine wr_y rfl (y_move rfl) ?_
    refine wr_a rfl (a_callF en42 rfl (Ct.fresh (fun w hw => pass_ct ((rdr 1 rfl) w hw) ((rdr 0 rfl) w hw) (by omega) bh_u (fun i hi => mem_iota.1 hi) (by rw [iota_len]; omega)))) ?_
    rintro _ _ ⟨_, rfl, A_3, c_4, rfl, rfl⟩
    refine wr_y rfl (y_move rfl) ?_
    refine wr_y rfl (y_extract rfl rfl) ?_
    refine wr_y rfl (y_extract rfl rfl) ?_
    refine wr_y rfl (y_assign rfl) ?_
    refine wr_nil ?_
    refine w_seq ?_
    refine w_reg ?_
    refine wr_y rfl (y_move rfl) ?_
    refine wr_a rfl (a_callF en39 rfl (Ct.fresh (fun w hw => rinv_ct ((rdr 0 rfl) w hw) (pk_perm bh_u) (by rw [pk_len bh_u]; omega)))) ?_
    rintro _ _ ⟨_, rfl, A_5, c_6, inv, rfl, hl_inv, hq_inv, rfl⟩
    refine wr_y rfl (y_move rfl) ?_
    refine wr_y rfl (y_extract rfl rfl) ?_
    refine wr_y rfl (y_extract rfl rfl) ?_
    refine wr_y rfl (y_assign rfl) ?_
    refine wr_y rfl (y_assign rfl) ?_
    refine wr_nil ?_
    refine w_seq ?_
    refine w_reg ?_
    refine wr_y rfl (y_move rfl) ?_
    refine wr_y rfl (y_assign rfl) ?_
    refine wr_nil ?_
    refine w_retR (R1 := [⟨3, 1, A_5, (passK (iota u.length) u ((256 : Int)).toNat).length, c_6, ints .i64 inv, false⟩]) (fun _ h => h.sel [0] (by decide) rfl) ?_
    refine ⟨_, rfl, ?_⟩
    obtain rfl : inv = fsL u := fs_of bh_u hl_inv hq_inv
    have el : (passK (iota u.length) u (256 : Int).toNat).length = (fsL u).length := by rw [pk_len bh_u, fsL_len]
    rw [el]
    exact ⟨_, _, rfl, rfl⟩

theorem bk_step {u S : List Int} {m k : Int} (k0 : 0 ≤ k) (hk : k < u.length) (hl : S.length = u.length) (h : ∀ j : Int, k < j → j < u.length → rd S j = rd (bkOut u m) j) {x : Int} (hx : x = rd u (ixr m (bkRow u m (u.length - 1 - k).toNat))) : ∀ j : Int, k - 1 < j → j < u.length → rd (upd S k x) j = rd (bkOut u m) j := by
  intro j h1 h2
  rw [rd_upd k0 (by omega) (by omega)]
  split
  · rename_i e; rw [e, rd_bkOut k0 hk, hx]
  · exact h j (by omega) h2
theorem bk_next {u : List Int} {m k r i : Int} (k0 : 0 ≤ k) (hk : k < u.length) (hr : r = bkRow u m (u.length - 1 - k).toNat) (hi : i = ixr m r) : lfC u i + 1 = bkRow u m (u.length - 1 - (k - 1)).toNat := by
  rw [show ((u.length : Int) - 1 - (k - 1)).toNat = (u.length - 1 - k).toNat + 1 by omega, bkRow, hi, hr]
theorem bk_done {u S : List Int} {m : Int} (hl : S.length = u.length) (h : ∀ j : Int, -1 < j → j < u.length → rd S j = rd (bkOut u m) j) : S = bkOut u m := list_ext_rd (by rw [hl, bkOut_len]) fun j h0 h1 => h j (by omega) (by omega)
theorem on_step {u : List Int} {m k r : Int} (k0 : 0 ≤ k) (hk : k < u.length) (h : ∀ t : Nat, (t : Int) < u.length - 1 - k → bkRow u m t ≠ m) (hr : r = bkRow u m (u.length - 1 - k).toNat) (hne : r ≠ m) : ∀ t : Nat, (t : Int) < u.length - 1 - (k - 1) → bkRow u m t ≠ m := by
  intro t ht
  rcases Int.lt_or_le t (u.length - 1 - k) with g | g
  · exact h t g
  · rw [show t = (u.length - 1 - k).toNat by omega, ← hr]; exact hne
/-! whorl/bwt.Back -/
set_option maxRecDepth 100000 in
set_option maxHeartbeats 1000000 in
theorem bback_ct {w : World} {A_u : Option Addr} {n_u c_u : Nat} {u : List Int} {m : Int} (h_u : Rd w A_u n_u c_u 1 (ints .u8 u)) (bh_u : ByteL u) (hok : BkOk u m) (hN : u.length ≤ 100000) :
    Ct Try.prog 16 #[.slice A_u n_u c_u, .int .i64 m] w.heap.size w [] (fun v R' => ∃ A c, v = .tuple #[.slice A u.length c, .int .i64 0] ∧ R' = [⟨5, 1, A, u.length, c, ints .u8 (bkOut u m), false⟩]) := by
  obtain rfl := h_u.lenI
  refine fn2 Try.func16 rfl rfl rfl ?_
  have m_u := h_u.max
  have hfl := fsL_len u
  have hpre := hok.1
  have hp1 := hok.1.1
  have hp2 := hok.1.2
  have hon0 := hok.2.1
  refine w_seq ?_
  refine w_reg ?_
  refine wr_y rfl (y_assign rfl) ?_
  refine wr_y rfl (y_assign rfl) ?_
  refine wr_nil ?_
  refine w_seq ?_
  refine w_reg ?_
  refine wr_y rfl (y_move rfl) ?_
  refine wr_y rfl (y_len Try.underlying22 rfl) ?_
  refine wr_y rfl (y_assign rfl) ?_
  refine wr_nil ?_
  refine w_seq ?_
  refine w_seq ?_
  refine w_reg ?_
  refine wr_y rfl (y_move rfl) ?_
  refine wr_y rfl (Yl.f (y_gt rfl rfl) (by omega)) ?_
  refine wr_y rfl (y_move rfl) ?_
  refine wr_yes rfl rfl ?_
  refine wr_y rfl (y_move rfl) ?_
  refine wr_yes rfl rfl ?_
  refine wr_y rfl (y_move rfl) ?_
  refine wr_yes rfl rfl ?_
  refine wr_y rfl (y_min rfl rfl) ?_
  refine wr_yes rfl rfl ?_
  refine wr_y rfl (Yl.f (y_lt rfl rfl) (by omega)) ?_
  refine wr_y rfl (y_pickF rfl rfl) ?_
  refine wr_y rfl (y_move rfl) ?_
  refine wr_yes rfl rfl ?_
  refine wr_y rfl (y_move rfl) ?_
  refine wr_yes rfl rfl ?_
  refine wr_y rfl (y_move rfl) ?_
  refine wr_yes rfl rfl ?_
  refine wr_y rfl (Yl.f (y_gt rfl rfl) (by omega)) ?_
  refine wr_y rfl (y_pickF rfl rfl) ?_
  refine wr_nil ?_
  refine w_false rfl ?_
  refine w_skip ?_
  refine w_seq ?_
  refine w_reg ?_
  refine wr_y rfl (y_move rfl) ?_
  refine wr_a rfl (a_callF en28 rfl (Ct.fresh (fun w hw => firsts_ct ((h_u.c _) w hw) bh_u (by omega)))) ?_
  rintro _ _ ⟨_, rfl, A_1, c_2, rfl, rfl⟩
  refine wr_y rfl (y_assign rfl) ?_
  refine wr_nil ?_
  refine w_seq ?_
  refine w_reg ?_
  refine wr_y rfl (y_move rfl) ?_
  refine wr_a rfl (a_makeN Try.underlying22 zb5 rfl rfl (by omega) (by omega) (by omega)) ?_
  rintro _ _ ⟨g_3, rfl, rfl⟩
  refine wr_rows (R1 := [⟨5, 1, (some ⟨g_3, 0, none⟩), u.length, u.length, ints .u8 (List.replicate u.length (0 : Int)), false⟩, ⟨3, 1, A_1, (fsL u).length, c_2, ints .i64 (fsL u), false⟩]) rfl ?_
  refine wr_as (v := .slice (some ⟨g_3, 0, none⟩) u.length u.length) rfl ?_
  refine wr_y rfl (y_assign rfl) ?_
  refine wr_nil ?_
  refine w_seq ?_
  refine w_reg ?_
  refine wr_y rfl (y_assign rfl) ?_
  refine wr_nil ?_
  refine w_seq ?_
  refine w_seq ?_
  refine w_reg ?_
  refine wr_y rfl (y_move rfl) ?_
  refine wr_y rfl (y_subI rfl rfl (by omega)) ?_
  refine wr_y rfl (y_assign rfl) ?_
  refine wr_nil ?_
  refine w_block ?_
  refine w_loop3 (fun (k : Int) (r : Int) (S : List Int) => [(0, .slice A_u u.length c_u), (1, .int .i64 m), (7, .slice A_1 ((fsL u).length) c_2), (8, .slice (some ⟨g_3, 0, none⟩) u.length u.length), (9, .int .i64 r), (10, .int .i64 k)]) (fun (k : Int) (r : Int) (S : List Int) => [⟨5, 1, (some ⟨g_3, 0, none⟩), u.length, u.length, ints .u8 S, false⟩, ⟨3, 1, A_1, (fsL u).length, c_2, ints .i64 (fsL u), false⟩]) (fun (k : Int) (r : Int) (S : List Int) => (-1 ≤ k) ∧ (k < u.length) ∧ (S.length = u.length) ∧ (r = bkRow u m (u.length - 1 - k).toNat) ∧ (∀ t : Nat, (t : Int) < u.length - 1 - k → bkRow u m t ≠ m) ∧ (∀ j : Int, k < j → j < u.length → rd S j = rd (bkOut u m) j)) (fun (k : Int) (r : Int) (S : List Int) => (k + 1).toNat) ?_ ?_
  ·
    exact ⟨((u.length : Nat) : Int) - 1, 0, List.replicate u.length (0 : Int), ⟨(by omega), (by omega), (by rw [List.length_replicate]), (by rw [show ((u.length : Int) - 1 - (((u.length : Nat) : Int) - 1)).toNat = 0 by omega]; rfl), (fun t h => by omega), (fun j h1 h2 => by omega)⟩, (Sub.cons rfl (Sub.cons rfl (Sub.cons rfl (Sub.cons rfl (Sub.cons rfl (Sub.cons rfl Sub.nil)))))), fun _ h => h⟩
  intro k r S ⟨hk0, hk1, hSl, hr, hon, hS⟩
  refine w_seq ?_
  refine w_seq ?_
  refine w_reg ?_
  refine wr_y rfl (y_move rfl) ?_
  refine wr_y rfl (y_ge rfl rfl) ?_
  refine wr_nil ?_
  refine w_if rfl (fun hc1 => ?_) (fun hc1 => ?_)
  ·
    have hk' : 0 ≤ k := by omega
    have hbd := bkRow_bd (l := u) bh_u hpre (u.length - 1 - k).toNat (fun t ht => hon t (by omega)) (by omega)
    rw [← hr] at hbd
    have hm0 : 0 ≤ m := by have := hpre.1; omega
    have hm1 := hpre.2
    have hne : r ≠ m := by rw [hr]; exact hon0 _ (by omega)
    refine w_skip ?_
    refine w_seq ?_
    refine w_block ?_
    refine w_seq ?_
    refine w_reg ?_
    refine wr_y rfl (y_move rfl) ?_
    refine wr_y rfl (y_assign rfl) ?_
    refine wr_nil ?_
    refine w_seq ?_
    refine w_block ?_
    refine w_seq ?_
    refine w_reg ?_
    refine wr_y rfl (y_move rfl) ?_
    refine wr_y rfl (y_move rfl) ?_
    refine wr_y rfl (Yl.f (y_eq rfl rfl) (hne)) ?_
    refine wr_y rfl (y_assign rfl) ?_
    refine wr_nil ?_
    refine w_false rfl ?_
    refine w_seq ?_
    refine w_reg ?_
    refine wr_y rfl (y_move rfl) ?_
    refine wr_y rfl (y_move rfl) ?_
    refine wr_y rfl (y_gt rfl rfl) ?_
    refine wr_y rfl (y_assign rfl) ?_
    refine wr_nil ?_
    refine w_if rfl (fun hc2 => ?_) (fun hc2 => ?_)
    ·
      have hiv : r - 1 = ixr m r := by unfold ixr; split <;> omega
      have hxx : rd u (r - 1) = rd u (ixr m (bkRow u m (u.length - 1 - k).toNat)) := by rw [hiv, ← hr]
      have hib := ixr_bd (n := u.length) hbd.1 hbd.2 hne hm0 hm1 (by omega)
      rw [← hiv] at hib
      have hfs := rd_fsL (l := u) hib.1 hib.2
      have hlf := lf_bd (l := u) bh_u hib.1 hib.2
      have hnx : rd (fsL u) (r - 1) + 1 = bkRow u m (u.length - 1 - (k - 1)).toNat := by rw [hfs]; exact bk_next hk' hk1 hr hiv
      refine w_reg ?_
      refine wr_y rfl (y_move rfl) ?_
      refine wr_y rfl (y_subI rfl rfl (by omega)) ?_
      refine wr_y rfl (y_assign rfl) ?_
      refine wr_nil ?_
      refine w_seq ?_
      refine w_reg ?_
      refine wr_y rfl (y_move rfl) ?_
      refine wr_y rfl (y_move rfl) ?_
      refine wr_y rfl (y_move rfl) ?_
      refine wr_y rfl (y_move rfl) ?_
      refine wr_y rfl (y_index1 Try.underlying22 sz5 rfl rfl (h_u.c _) (by omega) (by omega)) ?_
      refine wr_y rfl (y_ldI Try.underlying5 rfl rfl (h_u.c _) (by omega) (by omega)) ?_
      refine wr_y rfl (y_index1 Try.underlying22 sz5 rfl rfl (rdr 0 rfl) (by omega) (by omega)) ?_
      refine wr_n (a_storeI 0 rfl sz5 rfl rfl (by omega) (by omega)) ?_
      rintro _ _ rfl
      refine wr_rows (R1 := [⟨5, 1, (some ⟨g_3, 0, none⟩), u.length, u.length, ints .u8 (upd S k (rd u (r - 1))), false⟩, ⟨3, 1, A_1, (fsL u).length, c_2, ints .i64 (fsL u), false⟩]) rfl ?_
      refine wr_nil ?_
      refine w_reg ?_
      refine wr_y rfl (y_move rfl) ?_
      refine wr_y rfl (y_move rfl) ?_
      refine wr_y rfl (y_index1 Try.underlying23 sz3 rfl rfl (rdr 1 rfl) (by omega) (by omega)) ?_
      refine wr_y rfl (y_ldI Try.underlying3 rfl rfl (rdr 1 rfl) (by omega) (by omega)) ?_
      refine wr_y rfl (y_addI rfl rfl (by omega)) ?_
      refine wr_y rfl (y_assign rfl) ?_
      refine wr_nil ?_
      refine w_reg ?_
      refine wr_y rfl (y_move rfl) ?_
      refine wr_y rfl (y_subI rfl rfl (by omega)) ?_
      refine wr_y rfl (y_assign rfl) ?_
      refine wr_nil ?_
      exact ⟨k - 1, (rd (fsL u) (r - 1)) + 1, upd S k (rd u (r - 1)), ⟨(by omega), (by omega), (by rw [upd_length]; exact hSl), (hnx), (on_step hk' hk1 hon hr hne), (bk_step hk' hk1 hSl hS hxx)⟩, (by omega), (Sub.cons rfl (Sub.cons rfl (Sub.cons rfl (Sub.cons rfl (Sub.cons rfl (Sub.cons rfl Sub.nil)))))), fun _ h => h⟩
    ·
      have hiv : r = ixr m r := by unfold ixr; split <;> omega
      have hxx : rd u (r) = rd u (ixr m (bkRow u m (u.length - 1 - k).toNat)) := by rw [hiv, ← hr]
      have hib := ixr_bd (n := u.length) hbd.1 hbd.2 hne hm0 hm1 (by omega)
      rw [← hiv] at hib
      have hfs := rd_fsL (l := u) hib.1 hib.2
      have hlf := lf_bd (l := u) bh_u hib.1 hib.2
      have hnx : rd (fsL u) (r) + 1 = bkRow u m (u.length - 1 - (k - 1)).toNat := by rw [hfs]; exact bk_next hk' hk1 hr hiv
      refine w_skip ?_
      refine w_seq ?_
      refine w_reg ?_
      refine wr_y rfl (y_move rfl) ?_
      refine wr_y rfl (y_move rfl) ?_
      refine wr_y rfl (y_move rfl) ?_
      refine wr_y rfl (y_move rfl) ?_
      refine wr_y rfl (y_index1 Try.underlying22 sz5 rfl rfl (h_u.c _) (by omega) (by omega)) ?_
      refine wr_y rfl (y_ldI Try.underlying5 rfl rfl (h_u.c _) (by omega) (by omega)) ?_
      refine wr_y rfl (y_index1 Try.underlying22 sz5 rfl rfl (rdr 0 rfl) (by omega) (by omega)) ?_
      refine wr_n (a_storeI 0 rfl sz5 rfl rfl (by omega) (by omega)) ?_
      rintro _ _ rfl
      refine wr_rows (R1 := [⟨5, 1, (some ⟨g_3, 0, none⟩), u.length, u.length, ints .u8 (upd S k (rd u r)), false⟩, ⟨3, 1, A_1, (fsL u).length, c_2, ints .i64 (fsL u), false⟩]) rfl ?_
      refine wr_nil ?_
      refine w_reg ?_
      refine wr_y rfl (y_move rfl) ?_
      refine wr_y rfl (y_move rfl) ?_
      refine wr_y rfl (y_index1 Try.underlying23 sz3 rfl rfl (rdr 1 rfl) (by omega) (by omega)) ?_
      refine wr_y rfl (y_ldI Try.underlying3 rfl rfl (rdr 1 rfl) (by omega) (by omega)) ?_
      refine wr_y rfl (y_addI rfl rfl (by omega)) ?_
      refine wr_y rfl (y_assign rfl) ?_
      refine wr_nil ?_
      refine w_reg ?_
      refine wr_y rfl (y_move rfl) ?_
      refine wr_y rfl (y_subI rfl rfl (by omega)) ?_
      refine wr_y rfl (y_assign rfl) ?_
      refine wr_nil ?_
      exact ⟨k - 1, (rd (fsL u) r) + 1, upd S k (rd u r), ⟨(by omega), (by omega), (by rw [upd_length]; exact hSl), (hnx), (on_step hk' hk1 hon hr hne), (bk_step hk' hk1 hSl hS hxx)⟩, (by omega), (Sub.cons rfl (Sub.cons rfl (Sub.cons rfl (Sub.cons rfl (Sub.cons rfl (Sub.cons rfl Sub.nil)))))), fun _ h => h⟩
  ·
    refine w_exit ?_
    refine w_seq ?_
    refine w_seq ?_
    refine w_reg ?_
    refine wr_y rfl (y_move rfl) ?_
    refine wr_y rfl (y_move rfl) ?_
    refine wr_y rfl (Yl.f (y_ne rfl rfl) (by
          have e : ((u.length : Int) - 1 - k).toNat = u.length := by omega
          rw [hr, e, hok.2.2]
          exact fun h => h rfl)) ?_
    refine wr_nil ?_
    refine w_false rfl ?_
    refine w_skip ?_
    refine w_seq ?_
    refine w_reg ?_
    refine wr_y rfl (y_move rfl) ?_
    refine wr_y rfl (y_assign rfl) ?_
    refine wr_y rfl (y_assign rfl) ?_
    refine wr_nil ?_
    refine w_retR (R1 := [⟨5, 1, (some ⟨g_3, 0, none⟩), u.length, u.length, ints .u8 S, false⟩]) (fun _ h => h.sel [0] (by decide) rfl) ?_
    refine ⟨_, _, rfl, rfl, ?_⟩
    obtain rfl : S = bkOut u m := bk_done hSl fun j h1 h2 => hS j (by omega) h2
    exact ⟨_, _, rfl, rfl⟩

/-! whorl/bwt.Back -/
set_option maxRecDepth 100000 in
set_option maxHeartbeats 1000000 in
theorem bbackNo_ct {w : World} {A_u : Option Addr} {n_u c_u : Nat} {u : List Int} {m : Int} (h_u : Rd w A_u n_u c_u 1 (ints .u8 u)) (bh_u : ByteL u) (hno : ¬ BkOk u m) (hN : u.length ≤ 100000) :
    Ct Try.prog 16 #[.slice A_u n_u c_u, .int .i64 m] w.heap.size w [] (fun v R' => v = .tuple #[.slice none 0 0, .int .i64 5]) := by
  obtain rfl := h_u.lenI
  refine fn2 Try.func16 rfl rfl rfl ?_
  have m_u := h_u.max
  have hfl := fsL_len u
  refine w_seq ?_
  refine w_reg ?_
  refine wr_y rfl (y_assign rfl) ?_
  refine wr_y rfl (y_assign rfl) ?_
  refine wr_nil ?_
  refine w_seq ?_
  refine w_reg ?_
  refine wr_y rfl (y_move rfl) ?_
  refine wr_y rfl (y_len Try.underlying22 rfl) ?_
  refine wr_y rfl (y_assign rfl) ?_
  refine wr_nil ?_
  refine w_seq ?_
  refine w_seq ?_
  refine w_reg ?_
  refine wr_y rfl (y_move rfl) ?_
  refine wr_y rfl (y_gt rfl rfl) ?_
  refine wr_y rfl (y_move rfl) ?_
  refine wr_mid 5 [(0, .slice A_u u.length c_u), (1, .int .i64 m), (6, .int .i64 ((u.length : Nat) : Int)), (21, .bool (decide ((100000 < ((u.length : Nat) : Int)) ∨ (m < (min ((u.length : Nat) : Int) 1)))))] [] ?_ ?_
  ·
    refine wr_case 16 rfl (fun hc1 => ?_) (fun hc1 => ?_)
    ·
      refine wr_no rfl rfl rfl rfl ?_
      refine wr_no rfl rfl rfl rfl ?_
      refine wr_no rfl rfl rfl rfl ?_
      refine wr_no rfl rfl rfl rfl ?_
      refine wr_y rfl (y_pickT rfl rfl) ?_
      refine wr_nil ?_
      exact ⟨(Sub.cons rfl (Sub.cons rfl (Sub.cons rfl (Sub.to rfl (mb_t (by first | omega | exact ⟨fun h => ⟨(by assumption), h⟩, fun h => h.2⟩ | simp [*])) Sub.nil)))), fun _ h => h⟩
    ·
      refine wr_yes rfl rfl ?_
      refine wr_y rfl (y_move rfl) ?_
      refine wr_yes rfl rfl ?_
      refine wr_y rfl (y_move rfl) ?_
      refine wr_yes rfl rfl ?_
      refine wr_y rfl (y_min rfl rfl) ?_
      refine wr_yes rfl rfl ?_
      refine wr_y rfl (y_lt rfl rfl) ?_
      refine wr_y rfl (y_pickF rfl rfl) ?_
      refine wr_nil ?_
      exact ⟨(Sub.cons rfl (Sub.cons rfl (Sub.cons rfl (Sub.to rfl (mb (by first | omega | exact ⟨fun h => ⟨(by assumption), h⟩, fun h => h.2⟩ | simp [*])) Sub.nil)))), fun _ h => h⟩
  refine wr_y rfl (y_move rfl) ?_
  refine wr_mid 4 [(0, .slice A_u u.length c_u), (1, .int .i64 m), (6, .int .i64 ((u.length : Nat) : Int)), (26, .bool (decide (((100000 < ((u.length : Nat) : Int)) ∨ (m < (min ((u.length : Nat) : Int) 1))) ∨ (((u.length : Nat) : Int) < m))))] [] ?_ ?_
  ·
    refine wr_case 22 rfl (fun hc2 => ?_) (fun hc2 => ?_)
    ·
      refine wr_no rfl rfl rfl rfl ?_
      refine wr_no rfl rfl rfl rfl ?_
      refine wr_no rfl rfl rfl rfl ?_
      refine wr_y rfl (y_pickT rfl rfl) ?_
      refine wr_nil ?_
      exact ⟨(Sub.cons rfl (Sub.cons rfl (Sub.cons rfl (Sub.to rfl (mb_t (by first | omega | exact ⟨fun h => ⟨(by assumption), h⟩, fun h => h.2⟩ | simp [*])) Sub.nil)))), fun _ h => h⟩
    ·
      refine wr_yes rfl rfl ?_
      refine wr_y rfl (y_move rfl) ?_
      refine wr_yes rfl rfl ?_
      refine wr_y rfl (y_move rfl) ?_
      refine wr_yes rfl rfl ?_
      refine wr_y rfl (y_gt rfl rfl) ?_
      refine wr_y rfl (y_pickF rfl rfl) ?_
      refine wr_nil ?_
      exact ⟨(Sub.cons rfl (Sub.cons rfl (Sub.cons rfl (Sub.to rfl (mb (by first | omega | exact ⟨fun h => ⟨(by assumption), h⟩, fun h => h.2⟩ | simp [*])) Sub.nil)))), fun _ h => h⟩
  refine wr_nil ?_
  refine w_if rfl (fun hc3 => ?_) (fun hc3 => ?_)
  ·
    refine w_seq ?_
    refine w_reg ?_
    refine wr_y rfl (y_assign rfl) ?_
    refine wr_y rfl (y_assign rfl) ?_
    refine wr_nil ?_
    refine w_ret ?_
    refine ⟨_, _, rfl, rfl, ?_⟩
    rfl
  ·
    have hpre : BkPre u m := by unfold BkPre; omega
    refine w_skip ?_
    refine w_seq ?_
    refine w_reg ?_
    refine wr_y rfl (y_move rfl) ?_
    refine wr_a rfl (a_callF en28 rfl (Ct.fresh (fun w hw => firsts_ct ((h_u.c _) w hw) bh_u (by omega)))) ?_
    rintro _ _ ⟨_, rfl, A_1, c_2, rfl, rfl⟩
    refine wr_y rfl (y_assign rfl) ?_
    refine wr_nil ?_
    refine w_seq ?_
    refine w_reg ?_
    refine wr_y rfl (y_move rfl) ?_
    refine wr_a rfl (a_makeN Try.underlying22 zb5 rfl rfl (by omega) (by omega) (by omega)) ?_
    rintro _ _ ⟨g_3, rfl, rfl⟩
    refine wr_rows (R1 := [⟨5, 1, (some ⟨g_3, 0, none⟩), u.length, u.length, ints .u8 (List.replicate u.length (0 : Int)), false⟩, ⟨3, 1, A_1, (fsL u).length, c_2, ints .i64 (fsL u), false⟩]) rfl ?_
    refine wr_as (v := .slice (some ⟨g_3, 0, none⟩) u.length u.length) rfl ?_
    refine wr_y rfl (y_assign rfl) ?_
    refine wr_nil ?_
    refine w_seq ?_
    refine w_reg ?_
    refine wr_y rfl (y_assign rfl) ?_
    refine wr_nil ?_
    refine w_seq ?_
    refine w_seq ?_
    refine w_reg ?_
    refine wr_y rfl (y_move rfl) ?_
    refine wr_y rfl (y_subI rfl rfl (by omega)) ?_
    refine wr_y rfl (y_assign rfl) ?_
    refine wr_nil ?_
    refine w_block ?_
    refine w_loop3 (fun (k : Int) (r : Int) (S : List Int) => [(0, .slice A_u u.length c_u), (1, .int .i64 m), (7, .slice A_1 ((fsL u).length) c_2), (8, .slice (some ⟨g_3, 0, none⟩) u.length u.length), (9, .int .i64 r), (10, .int .i64 k)]) (fun (k : Int) (r : Int) (S : List Int) => [⟨5, 1, (some ⟨g_3, 0, none⟩), u.length, u.length, ints .u8 S, false⟩, ⟨3, 1, A_1, (fsL u).length, c_2, ints .i64 (fsL u), false⟩]) (fun (k : Int) (r : Int) (S : List Int) => (-1 ≤ k) ∧ (k < u.length) ∧ (S.length = u.length) ∧ (r = bkRow u m (u.length - 1 - k).toNat) ∧ (∀ t : Nat, (t : Int) < u.length - 1 - k → bkRow u m t ≠ m) ∧ (∀ j : Int, k < j → j < u.length → rd S j = rd (bkOut u m) j)) (fun (k : Int) (r : Int) (S : List Int) => (k + 1).toNat) ?_ ?_
    ·
      exact ⟨((u.length : Nat) : Int) - 1, 0, List.replicate u.length (0 : Int), ⟨(by omega), (by omega), (by rw [List.length_replicate]), (by rw [show ((u.length : Int) - 1 - (((u.length : Nat) : Int) - 1)).toNat = 0 by omega]; rfl), (fun t h => by omega), (fun j h1 h2 => by omega)⟩, (Sub.cons rfl (Sub.cons rfl (Sub.cons rfl (Sub.cons rfl (Sub.cons rfl (Sub.cons rfl Sub.nil)))))), fun _ h => h⟩
    intro k r S ⟨hk0, hk1, hSl, hr, hon, hS⟩
    refine w_seq ?_
    refine w_seq ?_
    refine w_reg ?_
    refine wr_y rfl (y_move rfl) ?_
    refine wr_y rfl (y_ge rfl rfl) ?_
    refine wr_nil ?_
    refine w_if rfl (fun hc4 => ?_) (fun hc4 => ?_)
    ·
      have hk' : 0 ≤ k := by omega
      have hbd := bkRow_bd (l := u) bh_u hpre (u.length - 1 - k).toNat (fun t ht => hon t (by omega)) (by omega)
      rw [← hr] at hbd
      have hm0 : 0 ≤ m := by have := hpre.1; omega
      have hm1 := hpre.2
      refine w_skip ?_
      refine w_seq ?_
      refine w_block ?_
      refine w_seq ?_
      refine w_reg ?_
      refine wr_y rfl (y_move rfl) ?_
      refine wr_y rfl (y_assign rfl) ?_
      refine wr_nil ?_
      refine w_seq ?_
      refine w_block ?_
      refine w_seq ?_
      refine w_reg ?_
      refine wr_y rfl (y_move rfl) ?_
      refine wr_y rfl (y_move rfl) ?_
      refine wr_y rfl (y_eq rfl rfl) ?_
      refine wr_y rfl (y_assign rfl) ?_
      refine wr_nil ?_
      refine w_if rfl (fun hc5 => ?_) (fun hc5 => ?_)
      ·
        refine w_seq ?_
        refine w_reg ?_
        refine wr_y rfl (y_assign rfl) ?_
        refine wr_y rfl (y_assign rfl) ?_
        refine wr_nil ?_
        refine w_retR (R1 := []) (fun _ h => h.sel [] (by decide) rfl) ?_
        refine ⟨_, _, rfl, rfl, ?_⟩
        rfl
      ·
        have hne : r ≠ m := hc5
        refine w_seq ?_
        refine w_reg ?_
        refine wr_y rfl (y_move rfl) ?_
        refine wr_y rfl (y_move rfl) ?_
        refine wr_y rfl (y_gt rfl rfl) ?_
        refine wr_y rfl (y_assign rfl) ?_
        refine wr_nil ?_
        refine w_if rfl (fun hc6 => ?_) (fun hc6 => ?_)
        ·
          have hiv : r - 1 = ixr m r := by unfold ixr; split <;> omega
          have hxx : rd u (r - 1) = rd u (ixr m (bkRow u m (u.length - 1 - k).toNat)) := by rw [hiv, ← hr]
          have hib := ixr_bd (n := u.length) hbd.1 hbd.2 hne hm0 hm1 (by omega)
          rw [← hiv] at hib
          have hfs := rd_fsL (l := u) hib.1 hib.2
          have hlf := lf_bd (l := u) bh_u hib.1 hib.2
          have hnx : rd (fsL u) (r - 1) + 1 = bkRow u m (u.length - 1 - (k - 1)).toNat := by rw [hfs]; exact bk_next hk' hk1 hr hiv
          refine w_reg ?_
          refine wr_y rfl (y_move rfl) ?_
          refine wr_y rfl (y_subI rfl rfl (by omega)) ?_
          refine wr_y rfl (y_assign rfl) ?_
          refine wr_nil ?_
          refine w_seq ?_
          refine w_reg ?_
          refine wr_y rfl (y_move rfl) ?_
          refine wr_y rfl (y_move rfl) ?_
          refine wr_y rfl (y_move rfl) ?_
          refine wr_y rfl (y_move rfl) ?_
          refine wr_y rfl (y_index1 Try.underlying22 sz5 rfl rfl (h_u.c _) (by omega) (by omega)) ?_
          refine wr_y rfl (y_ldI Try.underlying5 rfl rfl (h_u.c _) (by omega) (by omega)) ?_
          refine wr_y rfl (y_index1 Try.underlying22 sz5 rfl rfl (rdr 0 rfl) (by omega) (by omega)) ?_
          refine wr_n (a_storeI 0 rfl sz5 rfl rfl (by omega) (by omega)) ?_
          rintro _ _ rfl
          refine wr_rows (R1 := [⟨5, 1, (some ⟨g_3, 0, none⟩), u.length, u.length, ints .u8 (upd S k (rd u (r - 1))), false⟩, ⟨3, 1, A_1, (fsL u).length, c_2, ints .i64 (fsL u), false⟩]) rfl ?_
          refine wr_nil ?_
          refine w_reg ?_
          refine wr_y rfl (y_move rfl) ?_
          refine wr_y rfl (y_move rfl) ?_
          refine wr_y rfl (y_index1 Try.underlying23 sz3 rfl rfl (rdr 1 rfl) (by omega) (by omega)) ?_
          refine wr_y rfl (y_ldI Try.underlying3 rfl rfl (rdr 1 rfl) (by omega) (by omega)) ?_
          refine wr_y rfl (y_addI rfl rfl (by omega)) ?_
          refine wr_y rfl (y_assign rfl) ?_
          refine wr_nil ?_
          refine w_reg ?_
          refine wr_y rfl (y_move rfl) ?_
          refine wr_y rfl (y_subI rfl rfl (by omega)) ?_
          refine wr_y rfl (y_assign rfl) ?_
          refine wr_nil ?_
          exact ⟨k - 1, (rd (fsL u) (r - 1)) + 1, upd S k (rd u (r - 1)), ⟨(by omega), (by omega), (by rw [upd_length]; exact hSl), (hnx), (on_step hk' hk1 hon hr hne), (bk_step hk' hk1 hSl hS hxx)⟩, (by omega), (Sub.cons rfl (Sub.cons rfl (Sub.cons rfl (Sub.cons rfl (Sub.cons rfl (Sub.cons rfl Sub.nil)))))), fun _ h => h⟩
        ·
          have hiv : r = ixr m r := by unfold ixr; split <;> omega
          have hxx : rd u (r) = rd u (ixr m (bkRow u m (u.length - 1 - k).toNat)) := by rw [hiv, ← hr]
          have hib := ixr_bd (n := u.length) hbd.1 hbd.2 hne hm0 hm1 (by omega)
          rw [← hiv] at hib
          have hfs := rd_fsL (l := u) hib.1 hib.2
          have hlf := lf_bd (l := u) bh_u hib.1 hib.2
          have hnx : rd (fsL u) (r) + 1 = bkRow u m (u.length - 1 - (k - 1)).toNat := by rw [hfs]; exact bk_next hk' hk1 hr hiv
          refine w_skip ?_
          refine w_seq ?_
          refine w_reg ?_
          refine wr_y rfl (y_move rfl) ?_
          refine wr_y rfl (y_move rfl) ?_
          refine wr_y rfl (y_move rfl) ?_
          refine wr_y rfl (y_move rfl) ?_
          refine wr_y rfl (y_index1 Try.underlying22 sz5 rfl rfl (h_u.c _) (by omega) (by omega)) ?_
          refine wr_y rfl (y_ldI Try.underlying5 rfl rfl (h_u.c _) (by omega) (by omega)) ?_
          refine wr_y rfl (y_index1 Try.underlying22 sz5 rfl rfl (rdr 0 rfl) (by omega) (by omega)) ?_
          refine wr_n (a_storeI 0 rfl sz5 rfl rfl (by omega) (by omega)) ?_
          rintro _ _ rfl
          refine wr_rows (R1 := [⟨5, 1, (some ⟨g_3, 0, none⟩), u.length, u.length, ints .u8 (upd S k (rd u r)), false⟩, ⟨3, 1, A_1, (fsL u).length, c_2, ints .i64 (fsL u), false⟩]) rfl ?_
          refine wr_nil ?_
          refine w_reg ?_
          refine wr_y rfl (y_move rfl) ?_
          refine wr_y rfl (y_move rfl) ?_
          refine wr_y rfl (y_index1 Try.underlying23 sz3 rfl rfl (rdr 1 rfl) (by omega) (by omega)) ?_
          refine wr_y rfl (y_ldI Try.underlying3 rfl rfl (rdr 1 rfl) (by omega) (by omega)) ?_
          refine wr_y rfl (y_addI rfl rfl (by omega)) ?_
          refine wr_y rfl (y_assign rfl) ?_
          refine wr_nil ?_
          refine w_reg ?_
          refine wr_y rfl (y_move rfl) ?_
          refine wr_y rfl (y_subI rfl rfl (by omega)) ?_
          refine wr_y rfl (y_assign rfl) ?_
          refine wr_nil ?_
          exact ⟨k - 1, (rd (fsL u) r) + 1, upd S k (rd u r), ⟨(by omega), (by omega), (by rw [upd_length]; exact hSl), (hnx), (on_step hk' hk1 hon hr hne), (bk_step hk' hk1 hSl hS hxx)⟩, (by omega), (Sub.cons rfl (Sub.cons rfl (Sub.cons rfl (Sub.cons rfl (Sub.cons rfl (Sub.cons rfl Sub.nil)))))), fun _ h => h⟩
    ·
      refine w_exit ?_
      refine w_seq ?_
      refine w_seq ?_
      refine w_reg ?_
      refine wr_y rfl (y_move rfl) ?_
      refine wr_y rfl (y_move rfl) ?_
      refine wr_y rfl (y_ne rfl rfl) ?_
      refine wr_nil ?_
      refine w_if rfl (fun hc7 => ?_) (fun hc7 => ?_)
      ·
        refine w_seq ?_
        refine w_reg ?_
        refine wr_y rfl (y_assign rfl) ?_
        refine wr_y rfl (y_assign rfl) ?_
        refine wr_nil ?_
        refine w_retR (R1 := []) (fun _ h => h.sel [] (by decide) rfl) ?_
        refine ⟨_, _, rfl, rfl, ?_⟩
        rfl
      ·
        refine w_skip ?_
        refine w_seq ?_
        refine w_reg ?_
        refine wr_y rfl (y_move rfl) ?_
        refine wr_y rfl (y_assign rfl) ?_
        refine wr_y rfl (y_assign rfl) ?_
        refine wr_nil ?_
        refine w_retR (R1 := []) (fun _ h => h.sel [] (by decide) rfl) ?_
        refine ⟨_, _, rfl, rfl, ?_⟩
        exact absurd ⟨hpre, fun t ht => hon t (by omega), by
              have e : ((u.length : Int) - 1 - k).toNat = u.length := by omega
              rw [e] at hr
              omega⟩ hno

end Go.Proofs.Ytjgjjojecjeijaa
