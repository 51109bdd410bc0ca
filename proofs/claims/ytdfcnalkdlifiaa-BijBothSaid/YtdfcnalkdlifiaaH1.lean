/- Walks of Go functions, printed by a program of our own. -/
import Derived.Test.YtdfcnalkdlifiaaG1
import Derived.Test.YtdfcnalkdlifiaaQ30
import Derived.Test.YtdfcnalkdlifiaaE24
namespace Go.Proofs.Ytdfcnalkdlifiaa
open Go Go.Eng Go.Pure
set_option linter.unusedVariables false
theorem not_again {a : List Int} (hd : a.Nodup) {i : Int} (i0 : 0 ≤ i) (hi : i < a.length) : rd a i ∉ a.take i.toNat := fun h => by
  obtain ⟨q, hq, e⟩ := List.mem_iff_getElem.1 h
  rw [List.length_take] at hq
  rw [List.getElem_take] at e
  have := rd_inj hd (i := (q : Int)) (j := i) (by omega) (by omega) i0 hi (by rw [rd_getI (i := (q : Int)) (by omega) (by omega)]; simp only [Int.toNat_natCast]; exact e)
  omega
theorem seen_step {a : List Int} {E : List Bool} {i : Int} {n : Nat} (i0 : 0 ≤ i) (hi : i < a.length) (hl : E.length = n) (ha : 0 ≤ rd a i ∧ rd a i < n) (h : ∀ x : Int, 0 ≤ x → x < n → (rdb E x = true ↔ x ∈ a.take i.toNat)) : ∀ x : Int, 0 ≤ x → x < n → (rdb (updB E (rd a i) true) x = true ↔ x ∈ a.take (i + 1).toNat) := by
  intro x x0 x1
  rw [take_rd i0 hi, rdb_upd ha.1 (by omega) x0, List.mem_append, List.mem_singleton]
  split
  · rename_i e; exact ⟨fun _ => .inr e, fun _ => rfl⟩
  · rename_i e; rw [h x x0 x1]; exact ⟨.inl, fun h => h.resolve_right e⟩
theorem inv_step {a V : List Int} {i : Int} {n : Nat} (i0 : 0 ≤ i) (hi : i < a.length) (hd : a.Nodup) (hl : V.length = n) (ha : ∀ q : Int, 0 ≤ q → q < a.length → 0 ≤ rd a q ∧ rd a q < n) (h : ∀ q : Int, 0 ≤ q → q < i → rd V (rd a q) = q) : ∀ q : Int, 0 ≤ q → q < i + 1 → rd (upd V (rd a i) i) (rd a q) = q := by
  intro q q0 q1
  have h1 := ha i i0 hi
  have h2 := ha q q0 (by omega)
  rw [rd_upd h1.1 h2.1 (by omega)]
  split
  · rename_i e; exact rd_inj hd i0 hi q0 (by omega) e.symm
  · rename_i e
    refine h q q0 ?_
    rcases Int.lt_or_le q i with g | g
    · exact g
    · obtain rfl : q = i := by omega
      exact absurd rfl e
theorem bperm_of {a : List Int} (hn : a.Nodup) (hr : ∀ x ∈ a, 0 ≤ x ∧ x < a.length) : a.Perm (iota a.length) := perm_all hn (fun x hx => mem_iota.2 (hr x hx)) (by rw [iota_len]; exact Nat.le_refl _)
def fsL (l : List Int) : List Int := (iota l.length).map (lfC l)
theorem fsL_len (l : List Int) : (fsL l).length = l.length := by unfold fsL; rw [List.length_map, iota_len]
theorem rd_fsL {l : List Int} {i : Int} (i0 : 0 ≤ i) (hi : i < l.length) : rd (fsL l) i = lfC l i := by
  unfold fsL
  rw [rd_map i0 (by rw [iota_len]; exact hi), rd_iota i0 hi]
theorem pk_len {l : List Int} (hl : ByteL l) : (passK (iota l.length) l (256 : Int).toNat).length = l.length := by
  have := (lf_order (l := l) hl).1.length_eq
  rwa [iota_len] at this
theorem pk_perm {l : List Int} (hl : ByteL l) : (passK (iota l.length) l (256 : Int).toNat).Perm (iota (passK (iota l.length) l (256 : Int).toNat).length) := by
  rw [pk_len hl]
  exact (lf_order (l := l) hl).1
theorem fs_of {l V : List Int} (hl : ByteL l) (h1 : V.length = (passK (iota l.length) l (256 : Int).toNat).length) (h2 : ∀ q : Int, 0 ≤ q → q < (passK (iota l.length) l (256 : Int).toNat).length → rd V (rd (passK (iota l.length) l (256 : Int).toNat) q) = q) : V = fsL l := by
  rw [pk_len hl] at h1 h2
  refine list_ext_rd (by rw [h1, fsL_len]) fun j j0 j1 => ?_
  rw [rd_fsL j0 (by omega)]
  obtain ⟨q, q0, q1, e, f⟩ := lf_ix (l := l) hl j0 (by omega)
  rw [f, ← e]
  exact h2 q q0 q1
theorem ofT_yes {s a P acc : List Int} {i : Int} (i0 : 0 ≤ i) (hi : i < a.length) (h : acc = P ++ ofT s (a.take i.toNat)) (h0 : rd a i = 0) : acc = P ++ ofT s (a.take (i + 1).toNat) := by
  rw [ofT_step i0 hi, if_pos h0, List.append_nil]; exact h
theorem ofT_no {s a P acc : List Int} {i : Int} (i0 : 0 ≤ i) (hi : i < a.length) (h : acc = P ++ ofT s (a.take i.toNat)) (h0 : ¬ rd a i = 0) : acc ++ [rd s (rd a i - 1)] = P ++ ofT s (a.take (i + 1).toNat) := by
  rw [ofT_step i0 hi, if_neg h0, ← List.append_assoc, h]
theorem zat_yes {a : List Int} {i : Int} (hd : a.Nodup) (i0 : 0 ≤ i) (hi : i < a.length) (h0 : rd a i = 0) : i + 1 = zat (a.take (i + 1).toNat) := by rw [zat_step hd i0 hi, if_pos h0]
theorem zat_no {a : List Int} {i m : Int} (hd : a.Nodup) (i0 : 0 ≤ i) (hi : i < a.length) (h : m = zat (a.take i.toNat)) (h0 : ¬ rd a i = 0) : m = zat (a.take (i + 1).toNat) := by rw [zat_step hd i0 hi, if_neg h0]; exact h
theorem ofT_len (s : List Int) (l : List Int) : (ofT s l).length ≤ l.length := by unfold ofT; rw [List.length_map]; exact List.length_filter_le _ _
/-! whorl/rank.Inverse -/
set_option maxRecDepth 100000 in
set_option maxHeartbeats 800000 in
theorem rinv_ct {w : World} {A_a : Option Addr} {n_a c_a : Nat} {a : List Int} (h_a : Rd w A_a n_a c_a 1 (ints .i64 a)) (hp : a.Perm (iota a.length)) (hN : a.length ≤ 1000000) :
    Ct Try.prog 75 #[.slice A_a n_a c_a] w.heap.size w [] (fun v R' => ∃ A c V, v = .tuple #[.slice A a.length c, .bool true] ∧ V.length = a.length ∧ (∀ q : Int, 0 ≤ q → q < a.length → rd V (rd a q) = q) ∧ R' = [⟨3, 1, A, a.length, c, ints .i64 V, false⟩]) := by
  obtain rfl := h_a.lenI
  refine fn2 Try.func75 rfl rfl rfl ?_
  have m_a := h_a.max
  have hnd : a.Nodup := hp.symm.nodup (iota_nodup _)
  have hall : ∀ q : Int, 0 ≤ q → q < a.length → 0 ≤ rd a q ∧ rd a q < a.length := fun q q0 q1 => mem_iota.1 (hp.subset (rd_mem q0 q1))
  refine w_seq ?_
  refine w_reg ?_
  refine wr_y rfl (y_assign rfl) ?_
  refine wr_y rfl (y_assign rfl) ?_
  refine wr_nil ?_
  refine w_seq ?_
  refine w_reg ?_
  refine wr_y rfl (y_move rfl) ?_
  refine wr_y rfl (y_len Try.underlying35 rfl) ?_
  refine wr_a rfl (a_makeN Try.underlying35 zb3 rfl rfl (by omega) (by omega) (by omega)) ?_
  rintro _ _ ⟨g_1, rfl, rfl⟩
  refine wr_rows (R1 := [⟨3, 1, (some ⟨g_1, 0, none⟩), a.length, a.length, ints .i64 (List.replicate a.length (0 : Int)), false⟩]) rfl ?_
  refine wr_as (v := .slice (some ⟨g_1, 0, none⟩) a.length a.length) rfl ?_
  refine wr_y rfl (y_assign rfl) ?_
  refine wr_nil ?_
  refine w_seq ?_
  refine w_reg ?_
  refine wr_y rfl (y_move rfl) ?_
  refine wr_y rfl (y_len Try.underlying35 rfl) ?_
  refine wr_a rfl (a_makeB Try.underlying90 zb4 rfl rfl (by omega) (by omega) (by omega)) ?_
  rintro _ _ ⟨g_2, rfl, rfl⟩
  refine wr_rows (R1 := [⟨4, 1, (some ⟨g_2, 0, none⟩), a.length, a.length, bools (List.replicate a.length false), false⟩, ⟨3, 1, (some ⟨g_1, 0, none⟩), a.length, a.length, ints .i64 (List.replicate a.length (0 : Int)), false⟩]) rfl ?_
  refine wr_as (v := .slice (some ⟨g_2, 0, none⟩) a.length a.length) rfl ?_
  refine wr_y rfl (y_assign rfl) ?_
  refine wr_nil ?_
  refine w_seq ?_
  refine w_seq ?_
  refine w_reg ?_
  refine wr_y rfl (y_move rfl) ?_
  refine wr_y rfl (y_len Try.underlying35 rfl) ?_
  refine wr_y rfl (y_move rfl) ?_
  refine wr_nil ?_
  refine w_block ?_
  refine w_loop3 (fun (i : Int) (V : List Int) (E : List Bool) => [(0, .slice A_a a.length c_a), (4, .slice (some ⟨g_1, 0, none⟩) a.length a.length), (5, .slice (some ⟨g_2, 0, none⟩) a.length a.length), (14, .slice A_a a.length c_a), (15, .int .i64 ((a.length : Nat) : Int)), (16, .int .i64 i)]) (fun (i : Int) (V : List Int) (E : List Bool) => [⟨4, 1, (some ⟨g_2, 0, none⟩), a.length, a.length, bools E, false⟩, ⟨3, 1, (some ⟨g_1, 0, none⟩), a.length, a.length, ints .i64 V, false⟩]) (fun (i : Int) (V : List Int) (E : List Bool) => (0 ≤ i) ∧ (i ≤ a.length) ∧ (V.length = a.length) ∧ (E.length = a.length) ∧ (∀ x : Int, 0 ≤ x → x < a.length → (rdb E x = true ↔ x ∈ a.take i.toNat)) ∧ (∀ q : Int, 0 ≤ q → q < i → rd V (rd a q) = q)) (fun (i : Int) (V : List Int) (E : List Bool) => (a.length - i).toNat) ?_ ?_
  ·
    exact ⟨0, List.replicate a.length (0 : Int), List.replicate a.length false, ⟨(by omega), (by omega), (by rw [List.length_replicate]), (by rw [List.length_replicate]), (fun x h0 h1 => by rw [rdb_rep]; simp), (fun q h0 h1 => by omega)⟩, (Sub.cons rfl (Sub.cons rfl (Sub.cons rfl (Sub.cons rfl (Sub.cons rfl (Sub.cons rfl Sub.nil)))))), fun _ h => h⟩
  intro i V E ⟨hi0, hi1, hVl, hEl, hE, hV⟩
  refine w_seq ?_
  refine w_reg ?_
  refine wr_y rfl (y_lt rfl rfl) ?_
  refine wr_nil ?_
  refine w_seq ?_
  refine w_if rfl (fun hc1 => ?_) (fun hc1 => ?_)
  ·
    have ha := hall i hi0 (by omega)
    have hno := not_again hnd hi0 (by omega)
    refine w_skip ?_
    refine w_seq ?_
    refine w_block ?_
    refine w_seq ?_
    refine w_reg ?_
    refine wr_y rfl (y_move rfl) ?_
    refine wr_y rfl (y_index1 Try.underlying35 sz3 rfl rfl (h_a.c _) (by omega) (by omega)) ?_
    refine wr_y rfl (y_ldI Try.underlying3 rfl rfl (h_a.c _) (by omega) (by omega)) ?_
    refine wr_y rfl (y_assign rfl) ?_
    refine wr_y rfl (y_assign rfl) ?_
    refine wr_nil ?_
    refine w_seq ?_
    refine w_seq ?_
    refine w_reg ?_
    refine wr_y rfl (y_move rfl) ?_
    refine wr_y rfl (Yl.f (y_lt rfl rfl) (by omega)) ?_
    refine wr_y rfl (y_move rfl) ?_
    refine wr_yes rfl rfl ?_
    refine wr_y rfl (y_move rfl) ?_
    refine wr_yes rfl rfl ?_
    refine wr_y rfl (y_move rfl) ?_
    refine wr_yes rfl rfl ?_
    refine wr_y rfl (y_len Try.underlying35 rfl) ?_
    refine wr_yes rfl rfl ?_
    refine wr_y rfl (Yl.f (y_ge rfl rfl) (by omega)) ?_
    refine wr_y rfl (y_pickF rfl rfl) ?_
    refine wr_y rfl (y_move rfl) ?_
    refine wr_yes rfl rfl ?_
    refine wr_y rfl (y_move rfl) ?_
    refine wr_yes rfl rfl ?_
    refine wr_y rfl (y_move rfl) ?_
    refine wr_yes rfl rfl ?_
    refine wr_y rfl (y_index1 Try.underlying90 sz4 rfl rfl (rdr 0 rfl) (by omega) (by omega)) ?_
    refine wr_yes rfl rfl ?_
    refine wr_y rfl (Yl.f (y_ldB Try.underlying4 rfl rfl (rdr 0 rfl) (by omega) (by omega)) (fun h => hno ((hE _ ha.1 ha.2).1 h))) ?_
    refine wr_y rfl (y_pickF rfl rfl) ?_
    refine wr_nil ?_
    refine w_false rfl ?_
    refine w_skip ?_
    refine w_reg ?_
    refine wr_y rfl (y_move rfl) ?_
    refine wr_y rfl (y_move rfl) ?_
    refine wr_y rfl (y_move rfl) ?_
    refine wr_y rfl (y_move rfl) ?_
    refine wr_y rfl (y_move rfl) ?_
    refine wr_y rfl (y_index1 Try.underlying35 sz3 rfl rfl (rdr 1 rfl) (by omega) (by omega)) ?_
    refine wr_n (a_storeI 1 rfl sz3 rfl rfl (by omega) (by omega)) ?_
    rintro _ _ rfl
    refine wr_rows (R1 := [⟨4, 1, (some ⟨g_2, 0, none⟩), a.length, a.length, bools E, false⟩, ⟨3, 1, (some ⟨g_1, 0, none⟩), a.length, a.length, ints .i64 (upd V (rd a i) i), false⟩]) rfl ?_
    refine wr_y rfl (y_index1 Try.underlying90 sz4 rfl rfl (rdr 0 rfl) (by omega) (by omega)) ?_
    refine wr_n (a_storeB 0 rfl sz4 rfl rfl (by omega) (by omega)) ?_
    rintro _ _ rfl
    refine wr_rows (R1 := [⟨4, 1, (some ⟨g_2, 0, none⟩), a.length, a.length, bools (updB E (rd a i) true), false⟩, ⟨3, 1, (some ⟨g_1, 0, none⟩), a.length, a.length, ints .i64 (upd V (rd a i) i), false⟩]) rfl ?_
    refine wr_nil ?_
    refine w_reg ?_
    refine wr_y rfl (y_addI rfl rfl (by omega)) ?_
    refine wr_y rfl (y_move rfl) ?_
    refine wr_nil ?_
    exact ⟨i + 1, upd V (rd a i) i, updB E (rd a i) true, ⟨(by omega), (by omega), (by rw [upd_length]; exact hVl), (by rw [updB_len]; exact hEl), (seen_step hi0 (by omega) hEl ha hE), (inv_step hi0 (by omega) hnd hVl hall hV)⟩, (by omega), (Sub.cons rfl (Sub.cons rfl (Sub.cons rfl (Sub.cons rfl (Sub.cons rfl (Sub.cons rfl Sub.nil)))))), fun _ h => h⟩
  ·
    refine w_exit ?_
    refine w_seq ?_
    refine w_reg ?_
    refine wr_y rfl (y_move rfl) ?_
    refine wr_y rfl (y_assign rfl) ?_
    refine wr_y rfl (y_assign rfl) ?_
    refine wr_nil ?_
    refine w_retR (R1 := [⟨3, 1, (some ⟨g_1, 0, none⟩), a.length, a.length, ints .i64 V, false⟩]) (fun _ h => h.sel [1] (by decide) rfl) ?_
    refine ⟨_, _, rfl, rfl, ?_⟩
    exact ⟨_, _, V, rfl, hVl, fun q h0 h1 => hV q h0 (by omega), rfl⟩

/-! whorl/rank.Inverse -/
set_option maxRecDepth 100000 in
set_option maxHeartbeats 800000 in
theorem rinvNo_ct {w : World} {A_a : Option Addr} {n_a c_a : Nat} {a : List Int} (h_a : Rd w A_a n_a c_a 1 (ints .i64 a)) (hnp : ¬ a.Perm (iota a.length)) (hN : a.length ≤ 1000000) :
    Ct Try.prog 75 #[.slice A_a n_a c_a] w.heap.size w [] (fun v R' => v = .tuple #[.slice none 0 0, .bool false]) := by
  obtain rfl := h_a.lenI
  refine fn2 Try.func75 rfl rfl rfl ?_
  have m_a := h_a.max
  refine w_seq ?_
  refine w_reg ?_
  refine wr_y rfl (y_assign rfl) ?_
  refine wr_y rfl (y_assign rfl) ?_
  refine wr_nil ?_
  refine w_seq ?_
  refine w_reg ?_
  refine wr_y rfl (y_move rfl) ?_
  refine wr_y rfl (y_len Try.underlying35 rfl) ?_
  refine wr_a rfl (a_makeN Try.underlying35 zb3 rfl rfl (by omega) (by omega) (by omega)) ?_
  rintro _ _ ⟨g_1, rfl, rfl⟩
  refine wr_rows (R1 := [⟨3, 1, (some ⟨g_1, 0, none⟩), a.length, a.length, ints .i64 (List.replicate a.length (0 : Int)), false⟩]) rfl ?_
  refine wr_as (v := .slice (some ⟨g_1, 0, none⟩) a.length a.length) rfl ?_
  refine wr_y rfl (y_assign rfl) ?_
  refine wr_nil ?_
  refine w_seq ?_
  refine w_reg ?_
  refine wr_y rfl (y_move rfl) ?_
  refine wr_y rfl (y_len Try.underlying35 rfl) ?_
  refine wr_a rfl (a_makeB Try.underlying90 zb4 rfl rfl (by omega) (by omega) (by omega)) ?_
  rintro _ _ ⟨g_2, rfl, rfl⟩
  refine wr_rows (R1 := [⟨4, 1, (some ⟨g_2, 0, none⟩), a.length, a.length, bools (List.replicate a.length false), false⟩, ⟨3, 1, (some ⟨g_1, 0, none⟩), a.length, a.length, ints .i64 (List.replicate a.length (0 : Int)), false⟩]) rfl ?_
  refine wr_as (v := .slice (some ⟨g_2, 0, none⟩) a.length a.length) rfl ?_
  refine wr_y rfl (y_assign rfl) ?_
  refine wr_nil ?_
  refine w_seq ?_
  refine w_seq ?_
  refine w_reg ?_
  refine wr_y rfl (y_move rfl) ?_
  refine wr_y rfl (y_len Try.underlying35 rfl) ?_
  refine wr_y rfl (y_move rfl) ?_
  refine wr_nil ?_
  refine w_block ?_
  refine w_loop3 (fun (i : Int) (V : List Int) (E : List Bool) => [(0, .slice A_a a.length c_a), (4, .slice (some ⟨g_1, 0, none⟩) a.length a.length), (5, .slice (some ⟨g_2, 0, none⟩) a.length a.length), (14, .slice A_a a.length c_a), (15, .int .i64 ((a.length : Nat) : Int)), (16, .int .i64 i)]) (fun (i : Int) (V : List Int) (E : List Bool) => [⟨4, 1, (some ⟨g_2, 0, none⟩), a.length, a.length, bools E, false⟩, ⟨3, 1, (some ⟨g_1, 0, none⟩), a.length, a.length, ints .i64 V, false⟩]) (fun (i : Int) (V : List Int) (E : List Bool) => (0 ≤ i) ∧ (i ≤ a.length) ∧ (V.length = a.length) ∧ (E.length = a.length) ∧ (∀ x : Int, 0 ≤ x → x < a.length → (rdb E x = true ↔ x ∈ a.take i.toNat)) ∧ ((a.take i.toNat).Nodup) ∧ (∀ x ∈ a.take i.toNat, 0 ≤ x ∧ x < a.length)) (fun (i : Int) (V : List Int) (E : List Bool) => (a.length - i).toNat) ?_ ?_
  ·
    exact ⟨0, List.replicate a.length (0 : Int), List.replicate a.length false, ⟨(by omega), (by omega), (by rw [List.length_replicate]), (by rw [List.length_replicate]), (fun x h0 h1 => by rw [rdb_rep]; simp), (.nil), (fun x hx => by cases hx)⟩, (Sub.cons rfl (Sub.cons rfl (Sub.cons rfl (Sub.cons rfl (Sub.cons rfl (Sub.cons rfl Sub.nil)))))), fun _ h => h⟩
  intro i V E ⟨hi0, hi1, hVl, hEl, hE, hn, hr⟩
  refine w_seq ?_
  refine w_reg ?_
  refine wr_y rfl (y_lt rfl rfl) ?_
  refine wr_nil ?_
  refine w_seq ?_
  refine w_if rfl (fun hc1 => ?_) (fun hc1 => ?_)
  ·
    refine w_skip ?_
    refine w_seq ?_
    refine w_block ?_
    refine w_seq ?_
    refine w_reg ?_
    refine wr_y rfl (y_move rfl) ?_
    refine wr_y rfl (y_index1 Try.underlying35 sz3 rfl rfl (h_a.c _) (by omega) (by omega)) ?_
    refine wr_y rfl (y_ldI Try.underlying3 rfl rfl (h_a.c _) (by omega) (by omega)) ?_
    refine wr_y rfl (y_assign rfl) ?_
    refine wr_y rfl (y_assign rfl) ?_
    refine wr_nil ?_
    refine w_seq ?_
    refine w_seq ?_
    refine w_reg ?_
    refine wr_y rfl (y_move rfl) ?_
    refine wr_y rfl (y_lt rfl rfl) ?_
    refine wr_y rfl (y_move rfl) ?_
    refine wr_mid 5 [(0, .slice A_a a.length c_a), (4, .slice (some ⟨g_1, 0, none⟩) a.length a.length), (5, .slice (some ⟨g_2, 0, none⟩) a.length a.length), (6, .int .i64 i), (7, .int .i64 (rd a i)), (14, .slice A_a a.length c_a), (15, .int .i64 ((a.length : Nat) : Int)), (16, .int .i64 i), (28, .bool (decide (((rd a i) < 0) ∨ (((a.length : Nat) : Int) ≤ (rd a i)))))] [⟨4, 1, (some ⟨g_2, 0, none⟩), a.length, a.length, bools E, false⟩, ⟨3, 1, (some ⟨g_1, 0, none⟩), a.length, a.length, ints .i64 V, false⟩] ?_ ?_
    ·
      refine wr_case 23 rfl (fun hc2 => ?_) (fun hc2 => ?_)
      ·
        refine wr_no rfl rfl rfl rfl ?_
        refine wr_no rfl rfl rfl rfl ?_
        refine wr_no rfl rfl rfl rfl ?_
        refine wr_no rfl rfl rfl rfl ?_
        refine wr_y rfl (y_pickT rfl rfl) ?_
        refine wr_nil ?_
        exact ⟨(Sub.cons rfl (Sub.cons rfl (Sub.cons rfl (Sub.cons rfl (Sub.cons rfl (Sub.cons rfl (Sub.cons rfl (Sub.cons rfl (Sub.to rfl (mb_t (by first | omega | exact ⟨fun h => ⟨(by assumption), h⟩, fun h => h.2⟩ | simp [*])) Sub.nil))))))))), fun _ h => h⟩
      ·
        refine wr_yes rfl rfl ?_
        refine wr_y rfl (y_move rfl) ?_
        refine wr_yes rfl rfl ?_
        refine wr_y rfl (y_move rfl) ?_
        refine wr_yes rfl rfl ?_
        refine wr_y rfl (y_len Try.underlying35 rfl) ?_
        refine wr_yes rfl rfl ?_
        refine wr_y rfl (y_ge rfl rfl) ?_
        refine wr_y rfl (y_pickF rfl rfl) ?_
        refine wr_nil ?_
        exact ⟨(Sub.cons rfl (Sub.cons rfl (Sub.cons rfl (Sub.cons rfl (Sub.cons rfl (Sub.cons rfl (Sub.cons rfl (Sub.cons rfl (Sub.to rfl (mb (by first | omega | exact ⟨fun h => ⟨(by assumption), h⟩, fun h => h.2⟩ | simp [*])) Sub.nil))))))))), fun _ h => h⟩
    refine wr_y rfl (y_move rfl) ?_
    refine wr_mid 5 [(0, .slice A_a a.length c_a), (4, .slice (some ⟨g_1, 0, none⟩) a.length a.length), (5, .slice (some ⟨g_2, 0, none⟩) a.length a.length), (6, .int .i64 i), (7, .int .i64 (rd a i)), (14, .slice A_a a.length c_a), (15, .int .i64 ((a.length : Nat) : Int)), (16, .int .i64 i), (34, .bool (decide ((((rd a i) < 0) ∨ (((a.length : Nat) : Int) ≤ (rd a i))) ∨ (rdb E (rd a i) = true))))] [⟨4, 1, (some ⟨g_2, 0, none⟩), a.length, a.length, bools E, false⟩, ⟨3, 1, (some ⟨g_1, 0, none⟩), a.length, a.length, ints .i64 V, false⟩] ?_ ?_
    ·
      refine wr_case 29 rfl (fun hc3 => ?_) (fun hc3 => ?_)
      ·
        refine wr_no rfl rfl rfl rfl ?_
        refine wr_no rfl rfl rfl rfl ?_
        refine wr_no rfl rfl rfl rfl ?_
        refine wr_no rfl rfl rfl rfl ?_
        refine wr_y rfl (y_pickT rfl rfl) ?_
        refine wr_nil ?_
        exact ⟨(Sub.cons rfl (Sub.cons rfl (Sub.cons rfl (Sub.cons rfl (Sub.cons rfl (Sub.cons rfl (Sub.cons rfl (Sub.cons rfl (Sub.to rfl (mb_t (by first | omega | exact ⟨fun h => ⟨(by assumption), h⟩, fun h => h.2⟩ | simp [*])) Sub.nil))))))))), fun _ h => h⟩
      ·
        refine wr_yes rfl rfl ?_
        refine wr_y rfl (y_move rfl) ?_
        refine wr_yes rfl rfl ?_
        refine wr_y rfl (y_move rfl) ?_
        refine wr_yes rfl rfl ?_
        refine wr_y rfl (y_index1 Try.underlying90 sz4 rfl rfl (rdr 0 rfl) (by omega) (by omega)) ?_
        refine wr_yes rfl rfl ?_
        refine wr_y rfl (y_ldB Try.underlying4 rfl rfl (rdr 0 rfl) (by omega) (by omega)) ?_
        refine wr_y rfl (y_pickF rfl rfl) ?_
        refine wr_nil ?_
        exact ⟨(Sub.cons rfl (Sub.cons rfl (Sub.cons rfl (Sub.cons rfl (Sub.cons rfl (Sub.cons rfl (Sub.cons rfl (Sub.cons rfl (Sub.to rfl (mb (by first | omega | exact ⟨fun h => ⟨(by assumption), h⟩, fun h => h.2⟩ | simp [*])) Sub.nil))))))))), fun _ h => h⟩
    refine wr_nil ?_
    refine w_if rfl (fun hc4 => ?_) (fun hc4 => ?_)
    ·
      refine w_seq ?_
      refine w_reg ?_
      refine wr_y rfl (y_assign rfl) ?_
      refine wr_y rfl (y_assign rfl) ?_
      refine wr_nil ?_
      refine w_retR (R1 := []) (fun _ h => h.sel [] (by decide) rfl) ?_
      refine ⟨_, _, rfl, rfl, ?_⟩
      rfl
    ·
      have ha : 0 ≤ rd a i ∧ rd a i < a.length := ⟨by have h1 := fun h => hc4 (.inl (.inl h)); omega, by have h2 := fun h => hc4 (.inl (.inr h)); omega⟩
      have hnx : rd a i ∉ a.take i.toNat := fun h => hc4 (.inr ((hE _ ha.1 ha.2).2 h))
      refine w_skip ?_
      refine w_reg ?_
      refine wr_y rfl (y_move rfl) ?_
      refine wr_y rfl (y_move rfl) ?_
      refine wr_y rfl (y_move rfl) ?_
      refine wr_y rfl (y_move rfl) ?_
      refine wr_y rfl (y_move rfl) ?_
      refine wr_y rfl (y_index1 Try.underlying35 sz3 rfl rfl (rdr 1 rfl) (by omega) (by omega)) ?_
      refine wr_n (a_storeI 1 rfl sz3 rfl rfl (by omega) (by omega)) ?_
      rintro _ _ rfl
      refine wr_rows (R1 := [⟨4, 1, (some ⟨g_2, 0, none⟩), a.length, a.length, bools E, false⟩, ⟨3, 1, (some ⟨g_1, 0, none⟩), a.length, a.length, ints .i64 (upd V (rd a i) i), false⟩]) rfl ?_
      refine wr_y rfl (y_index1 Try.underlying90 sz4 rfl rfl (rdr 0 rfl) (by omega) (by omega)) ?_
      refine wr_n (a_storeB 0 rfl sz4 rfl rfl (by omega) (by omega)) ?_
      rintro _ _ rfl
      refine wr_rows (R1 := [⟨4, 1, (some ⟨g_2, 0, none⟩), a.length, a.length, bools (updB E (rd a i) true), false⟩, ⟨3, 1, (some ⟨g_1, 0, none⟩), a.length, a.length, ints .i64 (upd V (rd a i) i), false⟩]) rfl ?_
      refine wr_nil ?_
      refine w_reg ?_
      refine wr_y rfl (y_addI rfl rfl (by omega)) ?_
      refine wr_y rfl (y_move rfl) ?_
      refine wr_nil ?_
      exact ⟨i + 1, upd V (rd a i) i, updB E (rd a i) true, ⟨(by omega), (by omega), (by rw [upd_length]; exact hVl), (by rw [updB_len]; exact hEl), (seen_step hi0 (by omega) hEl ha hE), (by rw [take_rd hi0 (by omega)]; exact List.nodup_append.2 ⟨hn, by simp, fun x hx y hy e => by obtain rfl := List.mem_singleton.1 hy; subst e; exact hnx hx⟩), (by rw [take_rd hi0 (by omega)]; intro x hx; rcases List.mem_append.1 hx with hx | hx; exact hr x hx; obtain rfl := List.mem_singleton.1 hx; exact ha)⟩, (by omega), (Sub.cons rfl (Sub.cons rfl (Sub.cons rfl (Sub.cons rfl (Sub.cons rfl (Sub.cons rfl Sub.nil)))))), fun _ h => h⟩
  ·
    refine w_exit ?_
    refine w_seq ?_
    refine w_reg ?_
    refine wr_y rfl (y_move rfl) ?_
    refine wr_y rfl (y_assign rfl) ?_
    refine wr_y rfl (y_assign rfl) ?_
    refine wr_nil ?_
    refine w_retR (R1 := []) (fun _ h => h.sel [] (by decide) rfl) ?_
    refine ⟨_, _, rfl, rfl, ?_⟩
    exact absurd (bperm_of (by rw [List.take_of_length_le (by omega)] at hn; exact hn) (by rw [List.take_of_length_le (by omega)] at hr; exact hr)) hnp

/-! whorl/rank.Is -/
set_option maxRecDepth 100000 in
theorem ris_ct {w : World} {A_a : Option Addr} {n_a c_a : Nat} {a : List Int} (h_a : Rd w A_a n_a c_a 1 (ints .i64 a)) (hp : a.Perm (iota a.length)) (hN : a.length ≤ 1000000) :
    Ct Try.prog 73 #[.slice A_a n_a c_a] w.heap.size w [] (fun v R' => v = .bool true) := by
  obtain rfl := h_a.lenI
  refine fn1 Try.func73 rfl rfl rfl ?_
  have m_a := h_a.max
  refine w_seq ?_
  refine w_reg ?_
  refine wr_y rfl (y_assign rfl) ?_
  refine wr_nil ?_
  refine w_seq ?_
  refine w_reg ?_
  refine wr_y rfl (y_move rfl) ?_
  refine wr_a rfl (a_callF en75 rfl (Ct.fresh (fun w hw => rinv_ct ((h_a.c _) w hw) hp hN))) ?_
  rintro _ _ ⟨_, rfl, A_1, c_2, inv, rfl, hl_inv, hq_inv, rfl⟩
  refine wr_y rfl (y_move rfl) ?_
  refine wr_y rfl (y_extract rfl rfl) ?_
  refine wr_y rfl (y_extract rfl rfl) ?_
  refine wr_y rfl (y_assign rfl) ?_
  refine wr_y rfl (y_assign rfl) ?_
  refine wr_nil ?_
  refine w_seq ?_
  refine w_reg ?_
  refine wr_y rfl (y_move rfl) ?_
  refine wr_y rfl (y_assign rfl) ?_
  refine wr_nil ?_
  refine w_retR (R1 := []) (fun _ h => h.sel [] (by decide) rfl) ?_
  refine ⟨_, rfl, ?_⟩
  rfl

/-! whorl/rank.Is -/
set_option maxRecDepth 100000 in
theorem risNo_ct {w : World} {A_a : Option Addr} {n_a c_a : Nat} {a : List Int} (h_a : Rd w A_a n_a c_a 1 (ints .i64 a)) (hnp : ¬ a.Perm (iota a.length)) (hN : a.length ≤ 1000000) :
    Ct Try.prog 73 #[.slice A_a n_a c_a] w.heap.size w [] (fun v R' => v = .bool false) := by
  obtain rfl := h_a.lenI
  refine fn1 Try.func73 rfl rfl rfl ?_
  have m_a := h_a.max
  refine w_seq ?_
  refine w_reg ?_
  refine wr_y rfl (y_assign rfl) ?_
  refine wr_nil ?_
  refine w_seq ?_
  refine w_reg ?_
  refine wr_y rfl (y_move rfl) ?_
  refine wr_a rfl (a_callF en75 rfl (Ct.quiet (fun w hw => rinvNo_ct ((h_a.c _) w hw) hnp hN))) ?_
  rintro _ _ ⟨rfl, rfl⟩
  refine wr_y rfl (y_move rfl) ?_
  refine wr_y rfl (y_extract rfl rfl) ?_
  refine wr_y rfl (y_extract rfl rfl) ?_
  refine wr_y rfl (y_assign rfl) ?_
  refine wr_y rfl (y_assign rfl) ?_
  refine wr_nil ?_
  refine w_seq ?_
  refine w_reg ?_
  refine wr_y rfl (y_move rfl) ?_
  refine wr_y rfl (y_assign rfl) ?_
  refine wr_nil ?_
  refine w_ret ?_
  refine ⟨_, rfl, ?_⟩
  rfl

/-! whorl/lf.Of -/
set_option maxRecDepth 100000 in
set_option maxHeartbeats 800000 in
theorem lfOf_ct {w : World} {A_u : Option Addr} {n_u c_u : Nat} {u : List Int} (h_u : Rd w A_u n_u c_u 1 (ints .u8 u)) (bh_u : ByteL u) (hN : u.length ≤ 1000000) :
    Ct Try.prog 49 #[.slice A_u n_u c_u] w.heap.size w [] (fun v R' => ∃ A c, v = .slice A (fsL u).length c ∧ R' = [⟨3, 1, A, (fsL u).length, c, ints .i64 (fsL u), false⟩]) := by
  obtain rfl := h_u.lenI
  refine fn1 Try.func49 rfl rfl rfl ?_
  have m_u := h_u.max
  refine w_seq ?_
  refine w_reg ?_
  refine wr_y rfl (y_assign rfl) ?_
  refine wr_nil ?_
  refine w_seq ?_
  refine w_reg ?_
  refine wr_y rfl (y_move rfl) ?_
  refine wr_y rfl (y_len Try.underlying22 rfl) ?_
  refine wr_a rfl (a_makeN Try.underlying35 zb3 rfl rfl (by omega) (by omega) (by omega)) ?_
  rintro _ _ ⟨g_1, rfl, rfl⟩
  refine wr_rows (R1 := [⟨3, 1, (some ⟨g_1, 0, none⟩), u.length, u.length, ints .i64 (List.replicate u.length (0 : Int)), false⟩]) rfl ?_
  refine wr_as (v := .slice (some ⟨g_1, 0, none⟩) u.length u.length) rfl ?_
  refine wr_y rfl (y_assign rfl) ?_
  refine wr_nil ?_
  refine w_seq ?_
  refine w_reg ?_
  refine wr_y rfl (y_move rfl) ?_
  refine wr_y rfl (y_len Try.underlying22 rfl) ?_
  refine wr_a rfl (a_makeN Try.underlying35 zb3 rfl rfl (by omega) (by omega) (by omega)) ?_
  rintro _ _ ⟨g_2, rfl, rfl⟩
  refine wr_rows (R1 := [⟨3, 1, (some ⟨g_2, 0, none⟩), u.length, u.length, ints .i64 (List.replicate u.length (0 : Int)), false⟩, ⟨3, 1, (some ⟨g_1, 0, none⟩), u.length, u.length, ints .i64 (List.replicate u.length (0 : Int)), false⟩]) rfl ?_
  refine wr_as (v := .slice (some ⟨g_2, 0, none⟩) u.length u.length) rfl ?_
  refine wr_y rfl (y_assign rfl) ?_
  refine wr_nil ?_
  refine w_seq ?_
  refine w_seq ?_
  refine w_reg ?_
  refine wr_y rfl (y_move rfl) ?_
  refine wr_y rfl (y_len Try.underlying22 rfl) ?_
  refine wr_y rfl (y_move rfl) ?_
  refine wr_nil ?_
  refine w_block ?_
  refine w_loop3 (fun (i : Int) (V : List Int) (K : List Int) => [(3, .slice (some ⟨g_1, 0, none⟩) u.length u.length), (4, .slice (some ⟨g_2, 0, none⟩) u.length u.length), (15, .slice A_u u.length c_u), (16, .int .i64 ((u.length : Nat) : Int)), (17, .int .i64 i)]) (fun (i : Int) (V : List Int) (K : List Int) => [⟨3, 1, (some ⟨g_2, 0, none⟩), u.length, u.length, ints .i64 K, false⟩, ⟨3, 1, (some ⟨g_1, 0, none⟩), u.length, u.length, ints .i64 V, false⟩]) (fun (i : Int) (V : List Int) (K : List Int) => (0 ≤ i) ∧ (i ≤ u.length) ∧ (V.length = u.length) ∧ (K.length = u.length) ∧ (∀ j : Int, 0 ≤ j → j < i → rd V j = j) ∧ (∀ j : Int, 0 ≤ j → j < i → rd K j = rd u j)) (fun (i : Int) (V : List Int) (K : List Int) => (u.length - i).toNat) ?_ ?_
  ·
    exact ⟨0, List.replicate u.length (0 : Int), List.replicate u.length (0 : Int), ⟨(by omega), (by omega), (by rw [List.length_replicate]), (by rw [List.length_replicate]), (fun j h1 h2 => by omega), (fun j h1 h2 => by omega)⟩, (Sub.cons rfl (Sub.cons rfl (Sub.cons rfl (Sub.cons rfl (Sub.cons rfl Sub.nil))))), fun _ h => h⟩
  intro i V K ⟨hi0, hi1, hVl, hKl, hV, hK⟩
  refine w_seq ?_
  refine w_reg ?_
  refine wr_y rfl (y_lt rfl rfl) ?_
  refine wr_nil ?_
  refine w_seq ?_
  refine w_if rfl (fun hc1 => ?_) (fun hc1 => ?_)
  ·
    have hbi := bh_u.rd i
    refine w_skip ?_
    refine w_seq ?_
    refine w_block ?_
    refine w_seq ?_
    refine w_reg ?_
    refine wr_y rfl (y_move rfl) ?_
    refine wr_y rfl (y_index1 Try.underlying22 sz5 rfl rfl (h_u.c _) (by omega) (by omega)) ?_
    refine wr_y rfl (y_ldI Try.underlying5 rfl rfl (h_u.c _) (by omega) (by omega)) ?_
    refine wr_y rfl (y_assign rfl) ?_
    refine wr_y rfl (y_assign rfl) ?_
    refine wr_nil ?_
    refine w_reg ?_
    refine wr_y rfl (y_move rfl) ?_
    refine wr_y rfl (y_move rfl) ?_
    refine wr_y rfl (y_move rfl) ?_
    refine wr_y rfl (y_move rfl) ?_
    refine wr_y rfl (y_move rfl) ?_
    refine wr_y rfl (y_move rfl) ?_
    refine wr_y rfl (y_convI Try.underlying5 Try.underlying3 rfl (by omega)) ?_
    refine wr_y rfl (y_index1 Try.underlying35 sz3 rfl rfl (rdr 1 rfl) (by omega) (by omega)) ?_
    refine wr_n (a_storeI 1 rfl sz3 rfl rfl (by omega) (by omega)) ?_
    rintro _ _ rfl
    refine wr_rows (R1 := [⟨3, 1, (some ⟨g_2, 0, none⟩), u.length, u.length, ints .i64 K, false⟩, ⟨3, 1, (some ⟨g_1, 0, none⟩), u.length, u.length, ints .i64 (upd V i i), false⟩]) rfl ?_
    refine wr_y rfl (y_index1 Try.underlying35 sz3 rfl rfl (rdr 0 rfl) (by omega) (by omega)) ?_
    refine wr_n (a_storeI 0 rfl sz3 rfl rfl (by omega) (by omega)) ?_
    rintro _ _ rfl
    refine wr_rows (R1 := [⟨3, 1, (some ⟨g_2, 0, none⟩), u.length, u.length, ints .i64 (upd K i (rd u i)), false⟩, ⟨3, 1, (some ⟨g_1, 0, none⟩), u.length, u.length, ints .i64 (upd V i i), false⟩]) rfl ?_
    refine wr_nil ?_
    refine w_reg ?_
    refine wr_y rfl (y_addI rfl rfl (by omega)) ?_
    refine wr_y rfl (y_move rfl) ?_
    refine wr_nil ?_
    exact ⟨i + 1, upd V i i, upd K i (rd u i), ⟨(by omega), (by omega), (by rw [upd_length]; exact hVl), (by rw [upd_length]; exact hKl), (fill_step (f := fun j => j) hi0 (by omega) hV rfl), (fill_step (f := fun j => rd u j) hi0 (by omega) hK rfl)⟩, (by omega), (Sub.cons rfl (Sub.cons rfl (Sub.cons rfl (Sub.cons rfl (Sub.cons rfl Sub.nil))))), fun _ h => h⟩
  ·
    obtain rfl : V = iota u.length := list_ext_rd (by rw [iota_len]; omega) fun j h0 h1 => by rw [rd_iota h0 (by omega)]; exact hV j h0 (by omega)
    obtain rfl : u = K := (list_ext_rd (by omega) fun j h0 h1 => hK j h0 (by omega) : K = u).symm
    refine w_exit ?_
    refine w_seq ?_
    refine w_reg ?_
    refine wr_y rfl (y_move rfl) ?_
    refine wr_y rfl (y_move rfl) ?_
    refine wr_a rfl (a_callF en74 rfl (Ct.fresh (fun w hw => pass_ct ((rdr 1 rfl) w hw) ((rdr 0 rfl) w hw) (by omega) bh_u (fun i hi => mem_iota.1 hi) (by rw [iota_len]; omega)))) ?_
    rintro _ _ ⟨_, rfl, A_3, c_4, rfl, rfl⟩
    refine wr_y rfl (y_move rfl) ?_
    refine wr_y rfl (y_extract rfl rfl) ?_
    refine wr_y rfl (y_extract rfl rfl) ?_
    refine wr_y rfl (y_assign rfl) ?_
    refine wr_nil ?_
    refine w_seq ?_
    refine w_reg ?_
    refine wr_y rfl (y_move rfl) ?_
    refine wr_a rfl (a_callF en75 rfl (Ct.fresh (fun w hw => rinv_ct ((rdr 0 rfl) w hw) (pk_perm bh_u) (by rw [pk_len bh_u]; omega)))) ?_
    rintro _ _ ⟨_, rfl, A_5, c_6, inv, rfl, hl_inv, hq_inv, rfl⟩
    refine wr_y rfl (y_move rfl) ?_
    refine wr_y rfl (y_extract rfl rfl) ?_
    refine wr_y rfl (y_extract rfl rfl) ?_
    refine wr_y rfl (y_assign rfl) ?_
    refine wr_y rfl (y_assign rfl) ?_
    refine wr_nil ?_
    refine w_seq ?_
    refine w_reg ?_
    refine wr_y rfl (y_move rfl) ?_
    refine wr_y rfl (y_assign rfl) ?_
    refine wr_nil ?_
    refine w_retR (R1 := [⟨3, 1, A_5, (passK (iota u.length) u ((256 : Int)).toNat).length, c_6, ints .i64 inv, false⟩]) (fun _ h => h.sel [0] (by decide) rfl) ?_
    refine ⟨_, rfl, ?_⟩
    obtain rfl : inv = fsL u := fs_of bh_u hl_inv hq_inv
    have el : (passK (iota u.length) u (256 : Int).toNat).length = (fsL u).length := by rw [pk_len bh_u, fsL_len]
    rw [el]
    exact ⟨_, _, rfl, rfl⟩

/-! whorl/whorlref16.Inverse -/
set_option maxRecDepth 100000 in
set_option maxHeartbeats 600000 in
theorem inv16_ct {w : World} {A_a : Option Addr} {n_a c_a : Nat} {a : List Int} (h_a : Rd w A_a n_a c_a 1 (ints .i64 a)) (hp : a.Perm (iota a.length)) (hN : a.length ≤ 1000000) :
    Ct Try.prog 97 #[.slice A_a n_a c_a] w.heap.size w [] (fun v R' => ∃ A c V, v = .tuple #[.slice A a.length c, .bool true] ∧ R' = [⟨3, 1, A, a.length, c, ints .i64 V, false⟩]) := by
  obtain rfl := h_a.lenI
  refine fn2 Try.func97 rfl rfl rfl ?_
  have m_a := h_a.max
  have hnd : a.Nodup := hp.symm.nodup (iota_nodup _)
  refine w_seq ?_
  refine w_reg ?_
  refine wr_y rfl (y_assign rfl) ?_
  refine wr_y rfl (y_assign rfl) ?_
  refine wr_nil ?_
  refine w_seq ?_
  refine w_reg ?_
  refine wr_y rfl (y_move rfl) ?_
  refine wr_y rfl (y_len Try.underlying35 rfl) ?_
  refine wr_a rfl (a_makeN Try.underlying35 zb3 rfl rfl (by omega) (by omega) (by omega)) ?_
  rintro _ _ ⟨g_1, rfl, rfl⟩
  refine wr_rows (R1 := [⟨3, 1, (some ⟨g_1, 0, none⟩), a.length, a.length, ints .i64 (List.replicate a.length (0 : Int)), false⟩]) rfl ?_
  refine wr_as (v := .slice (some ⟨g_1, 0, none⟩) a.length a.length) rfl ?_
  refine wr_y rfl (y_assign rfl) ?_
  refine wr_nil ?_
  refine w_seq ?_
  refine w_seq ?_
  refine w_reg ?_
  refine wr_y rfl (y_assign rfl) ?_
  refine wr_nil ?_
  refine w_block ?_
  refine w_loop2 (fun (q : Int) (D : List Int) => [(0, .slice A_a a.length c_a), (4, .slice (some ⟨g_1, 0, none⟩) a.length a.length), (5, .int .i64 q)]) (fun (q : Int) (D : List Int) => [⟨3, 1, (some ⟨g_1, 0, none⟩), a.length, a.length, ints .i64 D, false⟩]) (fun (q : Int) (D : List Int) => (0 ≤ q) ∧ (q ≤ a.length) ∧ (D.length = a.length) ∧ (∀ j : Int, 0 ≤ j → j < q → rd D j = -1)) (fun (q : Int) (D : List Int) => (a.length - q).toNat) ?_ ?_
  ·
    exact ⟨0, List.replicate a.length (0 : Int), ⟨(by omega), (by omega), (by rw [List.length_replicate]), (fun j h1 h2 => by omega)⟩, (Sub.cons rfl (Sub.cons rfl (Sub.cons rfl Sub.nil))), fun _ h => h⟩
  intro q D ⟨hq0, hq1, hDl, hD⟩
  refine w_seq ?_
  refine w_seq ?_
  refine w_reg ?_
  refine wr_y rfl (y_move rfl) ?_
  refine wr_y rfl (y_move rfl) ?_
  refine wr_y rfl (y_len Try.underlying35 rfl) ?_
  refine wr_y rfl (y_lt rfl rfl) ?_
  refine wr_nil ?_
  refine w_if rfl (fun hc1 => ?_) (fun hc1 => ?_)
  ·
    refine w_skip ?_
    refine w_seq ?_
    refine w_block ?_
    refine w_reg ?_
    refine wr_y rfl (y_move rfl) ?_
    refine wr_y rfl (y_move rfl) ?_
    refine wr_y rfl (y_index1 Try.underlying35 sz3 rfl rfl (rdr 0 rfl) (by omega) (by omega)) ?_
    refine wr_n (a_storeI 0 rfl sz3 rfl rfl (by omega) (by omega)) ?_
    rintro _ _ rfl
    refine wr_rows (R1 := [⟨3, 1, (some ⟨g_1, 0, none⟩), a.length, a.length, ints .i64 (upd D q (-1)), false⟩]) rfl ?_
    refine wr_nil ?_
    refine w_reg ?_
    refine wr_y rfl (y_move rfl) ?_
    refine wr_y rfl (y_addI rfl rfl (by omega)) ?_
    refine wr_y rfl (y_assign rfl) ?_
    refine wr_nil ?_
    exact ⟨q + 1, upd D q (-1), ⟨(by omega), (by omega), (by rw [upd_length]; exact hDl), (fill_step (f := fun _ => -1) hq0 (by omega) hD rfl)⟩, (by omega), (Sub.cons rfl (Sub.cons rfl (Sub.cons rfl Sub.nil))), fun _ h => h⟩
  ·
    refine w_exit ?_
    refine w_seq ?_
    refine w_seq ?_
    refine w_reg ?_
    refine wr_y rfl (y_assign rfl) ?_
    refine wr_nil ?_
    refine w_block ?_
    refine w_loop2 (fun (i : Int) (D : List Int) => [(0, .slice A_a a.length c_a), (4, .slice (some ⟨g_1, 0, none⟩) a.length a.length), (6, .int .i64 i)]) (fun (i : Int) (D : List Int) => [⟨3, 1, (some ⟨g_1, 0, none⟩), a.length, a.length, ints .i64 D, false⟩]) (fun (i : Int) (D : List Int) => (0 ≤ i) ∧ (i ≤ a.length) ∧ (D.length = a.length) ∧ (∀ x : Int, 0 ≤ x → x < a.length → 0 ≤ rd D x → ∃ q : Int, 0 ≤ q ∧ q < i ∧ rd a q = x)) (fun (i : Int) (D : List Int) => (a.length - i).toNat) ?_ ?_
    ·
      exact ⟨0, D, ⟨(by omega), (by omega), (hDl), (fun x h0 h1 h2 => by have := hD x h0 (by omega); omega)⟩, (Sub.cons rfl (Sub.cons rfl (Sub.cons rfl Sub.nil))), fun _ h => h⟩
    intro i D ⟨hi0, hi1, hDl, hV⟩
    refine w_seq ?_
    refine w_seq ?_
    refine w_reg ?_
    refine wr_y rfl (y_move rfl) ?_
    refine wr_y rfl (y_move rfl) ?_
    refine wr_y rfl (y_len Try.underlying35 rfl) ?_
    refine wr_y rfl (y_lt rfl rfl) ?_
    refine wr_nil ?_
    refine w_if rfl (fun hc2 => ?_) (fun hc2 => ?_)
    ·
      have ha := mem_iota.1 (hp.subset (rd_mem (L := a) hi0 (by omega)))
      refine w_skip ?_
      refine w_seq ?_
      refine w_block ?_
      refine w_seq ?_
      refine w_seq ?_
      refine w_reg ?_
      refine wr_y rfl (y_move rfl) ?_
      refine wr_y rfl (y_move rfl) ?_
      refine wr_y rfl (y_index1 Try.underlying35 sz3 rfl rfl (h_a.c _) (by omega) (by omega)) ?_
      refine wr_y rfl (y_ldI Try.underlying3 rfl rfl (h_a.c _) (by omega) (by omega)) ?_
      refine wr_y rfl (Yl.f (y_lt rfl rfl) (by omega)) ?_
      refine wr_y rfl (y_move rfl) ?_
      refine wr_yes rfl rfl ?_
      refine wr_y rfl (y_move rfl) ?_
      refine wr_yes rfl rfl ?_
      refine wr_y rfl (y_move rfl) ?_
      refine wr_yes rfl rfl ?_
      refine wr_y rfl (y_index1 Try.underlying35 sz3 rfl rfl (h_a.c _) (by omega) (by omega)) ?_
      refine wr_yes rfl rfl ?_
      refine wr_y rfl (y_ldI Try.underlying3 rfl rfl (h_a.c _) (by omega) (by omega)) ?_
      refine wr_yes rfl rfl ?_
      refine wr_y rfl (y_move rfl) ?_
      refine wr_yes rfl rfl ?_
      refine wr_y rfl (y_len Try.underlying35 rfl) ?_
      refine wr_yes rfl rfl ?_
      refine wr_y rfl (Yl.f (y_ge rfl rfl) (by omega)) ?_
      refine wr_y rfl (y_pickF rfl rfl) ?_
      refine wr_y rfl (y_move rfl) ?_
      refine wr_yes rfl rfl ?_
      refine wr_y rfl (y_move rfl) ?_
      refine wr_yes rfl rfl ?_
      refine wr_y rfl (y_move rfl) ?_
      refine wr_yes rfl rfl ?_
      refine wr_y rfl (y_move rfl) ?_
      refine wr_yes rfl rfl ?_
      refine wr_y rfl (y_index1 Try.underlying35 sz3 rfl rfl (h_a.c _) (by omega) (by omega)) ?_
      refine wr_yes rfl rfl ?_
      refine wr_y rfl (y_ldI Try.underlying3 rfl rfl (h_a.c _) (by omega) (by omega)) ?_
      refine wr_yes rfl rfl ?_
      refine wr_y rfl (y_index1 Try.underlying35 sz3 rfl rfl (rdr 0 rfl) (by omega) (by omega)) ?_
      refine wr_yes rfl rfl ?_
      refine wr_y rfl (y_ldI Try.underlying3 rfl rfl (rdr 0 rfl) (by omega) (by omega)) ?_
      refine wr_yes rfl rfl ?_
      refine wr_y rfl (Yl.f (y_ge rfl rfl) (fun h => by
            obtain ⟨q, q0, q1, e⟩ := hV _ ha.1 ha.2 h
            have := rd_inj hnd q0 (by omega) hi0 (by omega) e
            omega)) ?_
      refine wr_y rfl (y_pickF rfl rfl) ?_
      refine wr_nil ?_
      refine w_false rfl ?_
      refine w_skip ?_
      refine w_reg ?_
      refine wr_y rfl (y_move rfl) ?_
      refine wr_y rfl (y_move rfl) ?_
      refine wr_y rfl (y_move rfl) ?_
      refine wr_y rfl (y_index1 Try.underlying35 sz3 rfl rfl (h_a.c _) (by omega) (by omega)) ?_
      refine wr_y rfl (y_ldI Try.underlying3 rfl rfl (h_a.c _) (by omega) (by omega)) ?_
      refine wr_y rfl (y_move rfl) ?_
      refine wr_y rfl (y_index1 Try.underlying35 sz3 rfl rfl (rdr 0 rfl) (by omega) (by omega)) ?_
      refine wr_n (a_storeI 0 rfl sz3 rfl rfl (by omega) (by omega)) ?_
      rintro _ _ rfl
      refine wr_rows (R1 := [⟨3, 1, (some ⟨g_1, 0, none⟩), a.length, a.length, ints .i64 (upd D (rd a i) i), false⟩]) rfl ?_
      refine wr_nil ?_
      refine w_reg ?_
      refine wr_y rfl (y_move rfl) ?_
      refine wr_y rfl (y_addI rfl rfl (by omega)) ?_
      refine wr_y rfl (y_assign rfl) ?_
      refine wr_nil ?_
      exact ⟨i + 1, upd D (rd a i) i, ⟨(by omega), (by omega), (by rw [upd_length]; exact hDl), (fun x x0 x1 hx => by
          rw [rd_upd ha.1 x0 (by omega)] at hx
          by_cases e : x = rd a i
          · exact ⟨i, hi0, by omega, e.symm⟩
          · rw [if_neg e] at hx
            obtain ⟨q, q0, q1, h⟩ := hV x x0 x1 hx
            exact ⟨q, q0, by omega, h⟩)⟩, (by omega), (Sub.cons rfl (Sub.cons rfl (Sub.cons rfl Sub.nil))), fun _ h => h⟩
    ·
      refine w_exit ?_
      refine w_seq ?_
      refine w_reg ?_
      refine wr_y rfl (y_move rfl) ?_
      refine wr_y rfl (y_assign rfl) ?_
      refine wr_y rfl (y_assign rfl) ?_
      refine wr_nil ?_
      refine w_retR (R1 := [⟨3, 1, (some ⟨g_1, 0, none⟩), a.length, a.length, ints .i64 D, false⟩]) (fun _ h => h.sel [0] (by decide) rfl) ?_
      refine ⟨_, _, rfl, rfl, ?_⟩
      exact ⟨_, _, _, rfl, rfl⟩

/-! whorl/whorlref16.Is -/
set_option maxRecDepth 100000 in
theorem is16_ct {w : World} {A_a : Option Addr} {n_a c_a : Nat} {a : List Int} (h_a : Rd w A_a n_a c_a 1 (ints .i64 a)) (hp : a.Perm (iota a.length)) (hN : a.length ≤ 1000000) :
    Ct Try.prog 78 #[.slice A_a n_a c_a] w.heap.size w [] (fun v R' => v = .bool true) := by
  obtain rfl := h_a.lenI
  refine fn1 Try.func78 rfl rfl rfl ?_
  have m_a := h_a.max
  refine w_seq ?_
  refine w_reg ?_
  refine wr_y rfl (y_assign rfl) ?_
  refine wr_nil ?_
  refine w_seq ?_
  refine w_reg ?_
  refine wr_y rfl (y_move rfl) ?_
  refine wr_a rfl (a_callF en97 rfl (Ct.fresh (fun w hw => inv16_ct ((h_a.c _) w hw) hp (by omega)))) ?_
  rintro _ _ ⟨_, rfl, A_1, c_2, V_3, rfl, rfl⟩
  refine wr_y rfl (y_move rfl) ?_
  refine wr_y rfl (y_extract rfl rfl) ?_
  refine wr_y rfl (y_extract rfl rfl) ?_
  refine wr_y rfl (y_assign rfl) ?_
  refine wr_y rfl (y_assign rfl) ?_
  refine wr_nil ?_
  refine w_seq ?_
  refine w_reg ?_
  refine wr_y rfl (y_move rfl) ?_
  refine wr_y rfl (y_assign rfl) ?_
  refine wr_nil ?_
  refine w_retR (R1 := []) (fun _ h => h.sel [] (by decide) rfl) ?_
  refine ⟨_, rfl, ?_⟩
  rfl

theorem inv_no_step {a D : List Int} {i : Int} {n : Nat} (i0 : 0 ≤ i) (hi : i < a.length) (hl : D.length = n) (ha : 0 ≤ rd a i ∧ rd a i < n) (h : ∀ x : Int, 0 ≤ x → x < n → (0 ≤ rd D x ↔ x ∈ a.take i.toNat)) : ∀ x : Int, 0 ≤ x → x < n → (0 ≤ rd (upd D (rd a i) i) x ↔ x ∈ a.take (i + 1).toNat) := by
  intro x x0 x1
  rw [take_rd i0 hi, rd_upd ha.1 x0 (by omega), List.mem_append, List.mem_singleton]
  split
  · rename_i e; exact ⟨fun _ => .inr e, fun _ => i0⟩
  · rename_i e; rw [h x x0 x1]; exact ⟨.inl, fun h => h.resolve_right e⟩
theorem ofL_nil {u a : List Int} (h : u.length = 0) (ha : a.length = 0) : ofL u a = [] ∧ zat a = 0 := by
  obtain rfl : u = [] := List.eq_nil_of_length_eq_zero h
  obtain rfl : a = [] := List.eq_nil_of_length_eq_zero ha
  exact ⟨rfl, rfl⟩
theorem bkOut_byt {u : List Int} (hu : ByteL u) (m : Int) : ByteL (bkOut u m) := by
  intro x hx
  unfold bkOut at hx
  obtain ⟨i, _, rfl⟩ := List.mem_map.1 hx
  exact hu.rd _
theorem cnt_part {u : List Int} {i j : Int} (j0 : 0 ≤ j) : ((iota (j + 1).toNat).countP fun x => decide (tl u x i)) = ((iota j.toNat).countP fun x => decide (tl u x i)) + if tl u j i then 1 else 0 := by
  rw [iota_succ j0, List.countP_append, List.countP_singleton]
  simp only [decide_eq_true_eq]
theorem cnt_yes {u : List Int} {i j z : Int} (j0 : 0 ≤ j) (hz : z = 1 + (((iota j.toNat).countP fun x => decide (tl u x i) : Nat) : Int)) (h : rd u j < rd u i ∨ rd u j = rd u i ∧ j < i) : z + 1 = 1 + (((iota (j + 1).toNat).countP fun x => decide (tl u x i) : Nat) : Int) := by
  rw [cnt_part j0, if_pos (show tl u j i from h), hz]; omega
theorem cnt_no {u : List Int} {i j z : Int} (j0 : 0 ≤ j) (hz : z = 1 + (((iota j.toNat).countP fun x => decide (tl u x i) : Nat) : Int)) (h : ¬ (rd u j < rd u i ∨ rd u j = rd u i ∧ j < i)) : z = 1 + (((iota (j + 1).toNat).countP fun x => decide (tl u x i) : Nat) : Int) := by
  rw [cnt_part j0, if_neg (show ¬ tl u j i from h), hz]; omega
theorem cnt_bd (u : List Int) (i j : Int) : (((iota j.toNat).countP fun x => decide (tl u x i) : Nat) : Int) ≤ j.toNat := by
  have := List.countP_le_length (p := fun x => decide (tl u x i)) (l := iota j.toNat)
  rw [iota_len] at this
  omega
theorem cnt_all {u : List Int} {i j z : Int} (hz : z = 1 + (((iota j.toNat).countP fun x => decide (tl u x i) : Nat) : Int)) (hj : j = u.length) : z = lfC u i + 1 := by
  unfold lfC
  rw [hz, hj, Int.toNat_natCast]; omega
theorem cnt0_yes {u : List Int} {i j z : Int} (j0 : 0 ≤ j) (hz : z = (((iota j.toNat).countP fun x => decide (tl u x i) : Nat) : Int)) (h : rd u j < rd u i ∨ rd u j = rd u i ∧ j < i) : z + 1 = (((iota (j + 1).toNat).countP fun x => decide (tl u x i) : Nat) : Int) := by
  have := cnt_yes (z := 1 + z) j0 (by rw [hz]) h
  omega
theorem cnt0_no {u : List Int} {i j z : Int} (j0 : 0 ≤ j) (hz : z = (((iota j.toNat).countP fun x => decide (tl u x i) : Nat) : Int)) (h : ¬ (rd u j < rd u i ∨ rd u j = rd u i ∧ j < i)) : z = (((iota (j + 1).toNat).countP fun x => decide (tl u x i) : Nat) : Int) := by
  have := cnt_no (z := 1 + z) j0 (by rw [hz]) h
  omega
theorem fsL_step {u acc : List Int} {i j z : Int} (i0 : 0 ≤ i) (hi : i < u.length) (hj : j = u.length) (hz : z = (((iota j.toNat).countP fun x => decide (tl u x i) : Nat) : Int)) (h : acc = (iota i.toNat).map (lfC u)) : acc ++ [z] = (iota (i + 1).toNat).map (lfC u) := by
  rw [iota_succ i0, List.map_append, h, hz, hj, Int.toNat_natCast]
  rfl
theorem fsL_perm {u : List Int} (hu : ByteL u) : (fsL u).Perm (iota (fsL u).length) := by
  rw [fsL_len]
  exact bij_perm (fun x h0 h1 => lf_bd (l := u) hu h0 h1) fun x y x0 x1 y0 y1 e => lf_inj (l := u) hu x0 x1 y0 y1 e
/-! whorl/whorlref22.Of -/
set_option maxRecDepth 100000 in
set_option maxHeartbeats 800000 in
theorem lfOf22_ct {w : World} {A_u : Option Addr} {n_u c_u : Nat} {u : List Int} (h_u : Rd w A_u n_u c_u 1 (ints .u8 u)) (bh_u : ByteL u) (hN : u.length ≤ 1000000) :
    Ct Try.prog 53 #[.slice A_u n_u c_u] w.heap.size w [] (fun v R' => ∃ A c, v = .slice A (fsL u).length c ∧ R' = [⟨3, 1, A, (fsL u).length, c, ints .i64 (fsL u), false⟩]) := by
  obtain rfl := h_u.lenI
  refine fn1 Try.func53 rfl rfl rfl ?_
  have m_u := h_u.max
  refine w_seq ?_
  refine w_reg ?_
  refine wr_y rfl (y_assign rfl) ?_
  refine wr_nil ?_
  refine w_seq ?_
  refine w_reg ?_
  refine wr_sub (R1 := [⟨3, 1, none, 0, 0, ints .i64 ([]), false⟩]) (Sub.refl _) (fun _ h => h.nil 3 1) ?_
  refine wr_y rfl (y_assign rfl) ?_
  refine wr_nil ?_
  refine w_seq ?_
  refine w_seq ?_
  refine w_reg ?_
  refine wr_y rfl (y_assign rfl) ?_
  refine wr_nil ?_
  refine w_block ?_
  refine w_loop5 (fun (A1 : Option Addr) (n1 : Nat) (c1 : Nat) (acc : List Int) (i : Int) => [(0, .slice A_u u.length c_u), (3, .slice A1 n1 c1), (4, .int .i64 i)]) (fun (A1 : Option Addr) (n1 : Nat) (c1 : Nat) (acc : List Int) (i : Int) => [⟨3, 1, A1, n1, c1, ints .i64 acc, false⟩]) (fun (A1 : Option Addr) (n1 : Nat) (c1 : Nat) (acc : List Int) (i : Int) => (n1 = acc.length) ∧ (0 ≤ i) ∧ (i ≤ u.length) ∧ (acc = (iota i.toNat).map (lfC u))) (fun (A1 : Option Addr) (n1 : Nat) (c1 : Nat) (acc : List Int) (i : Int) => (u.length - i).toNat) ?_ ?_
  ·
    exact ⟨none, 0, 0, [], 0, ⟨(rfl), (by omega), (by omega), (rfl)⟩, (Sub.cons rfl (Sub.cons rfl (Sub.cons rfl Sub.nil))), fun _ h => h⟩
  intro A1 n1 c1 acc i ⟨hn1, hi0, hi1, hacc⟩
  have hal := congrArg List.length hacc
  rw [List.length_map, iota_len] at hal
  refine w_seq ?_
  refine w_seq ?_
  refine w_reg ?_
  refine wr_y rfl (y_move rfl) ?_
  refine wr_y rfl (y_move rfl) ?_
  refine wr_y rfl (y_len Try.underlying22 rfl) ?_
  refine wr_y rfl (y_lt rfl rfl) ?_
  refine wr_nil ?_
  refine w_if rfl (fun hc1 => ?_) (fun hc1 => ?_)
  ·
    refine w_skip ?_
    refine w_seq ?_
    refine w_block ?_
    refine w_seq ?_
    refine w_reg ?_
    refine wr_y rfl (y_assign rfl) ?_
    refine wr_nil ?_
    refine w_seq ?_
    refine w_seq ?_
    refine w_reg ?_
    refine wr_y rfl (y_assign rfl) ?_
    refine wr_nil ?_
    refine w_block ?_
    refine w_loop2 (fun (j : Int) (z : Int) => [(0, .slice A_u u.length c_u), (3, .slice A1 n1 c1), (4, .int .i64 i), (5, .int .i64 z), (6, .int .i64 j)]) (fun (j : Int) (z : Int) => [⟨3, 1, A1, n1, c1, ints .i64 acc, false⟩]) (fun (j : Int) (z : Int) => (0 ≤ j) ∧ (j ≤ u.length) ∧ (z = (((iota j.toNat).countP fun x => decide (tl u x i) : Nat) : Int))) (fun (j : Int) (z : Int) => (u.length - j).toNat) ?_ ?_
    ·
      exact ⟨0, 0, ⟨(by omega), (by omega), (rfl)⟩, (Sub.cons rfl (Sub.cons rfl (Sub.cons rfl (Sub.cons rfl (Sub.cons rfl Sub.nil))))), fun _ h => h⟩
    intro j z ⟨hj0, hj1, hz⟩
    have hzb := cnt_bd u i j
    refine w_seq ?_
    refine w_seq ?_
    refine w_reg ?_
    refine wr_y rfl (y_move rfl) ?_
    refine wr_y rfl (y_move rfl) ?_
    refine wr_y rfl (y_len Try.underlying22 rfl) ?_
    refine wr_y rfl (y_lt rfl rfl) ?_
    refine wr_nil ?_
    refine w_if rfl (fun hc2 => ?_) (fun hc2 => ?_)
    ·
      refine w_skip ?_
      refine w_seq ?_
      refine w_block ?_
      refine w_join0 [(0, .slice A_u u.length c_u), (3, .slice A1 n1 c1), (4, .int .i64 i), (5, .int .i64 z), (6, .int .i64 j), (43, .bool (decide (((rd u j) < (rd u i)) ∨ (((rd u j) = (rd u i)) ∧ (j < i)))))] [⟨3, 1, A1, n1, c1, ints .i64 acc, false⟩] ?_ ?_
      ·
        refine w_regd mixed ?_
        refine wd_y 0 rfl (by kernel_rfl) rfl (y_move rfl) ?_
        refine wd_y 1 rfl (by kernel_rfl) rfl (y_move rfl) ?_
        refine wd_y 2 rfl (by kernel_rfl) rfl (y_index1 Try.underlying22 sz5 rfl rfl (h_u.c _) (by omega) (by omega)) ?_
        refine wd_y 3 rfl (by kernel_rfl) rfl (y_ldI Try.underlying5 rfl rfl (h_u.c _) (by omega) (by omega)) ?_
        refine wd_y 4 rfl (by kernel_rfl) rfl (y_move rfl) ?_
        refine wd_y 5 rfl (by kernel_rfl) rfl (y_move rfl) ?_
        refine wd_y 6 rfl (by kernel_rfl) rfl (y_index1 Try.underlying22 sz5 rfl rfl (h_u.c _) (by omega) (by omega)) ?_
        refine wd_y 7 rfl (by kernel_rfl) rfl (y_ldI Try.underlying5 rfl rfl (h_u.c _) (by omega) (by omega)) ?_
        refine wd_y 8 rfl (by kernel_rfl) rfl (y_lt rfl rfl) ?_
        refine wd_y 9 rfl (by kernel_rfl) rfl (y_move rfl) ?_
        refine wd_case 28 rfl (fun hc3 => ?_) (fun hc3 => ?_)
        ·
          refine wd_no 10 rfl (by kernel_rfl) rfl rfl rfl rfl ?_
          refine wd_no 11 rfl (by kernel_rfl) rfl rfl rfl rfl ?_
          refine wd_no 12 rfl (by kernel_rfl) rfl rfl rfl rfl ?_
          refine wd_no 13 rfl (by kernel_rfl) rfl rfl rfl rfl ?_
          refine wd_no 14 rfl (by kernel_rfl) rfl rfl rfl rfl ?_
          refine wd_no 15 rfl (by kernel_rfl) rfl rfl rfl rfl ?_
          refine wd_no 16 rfl (by kernel_rfl) rfl rfl rfl rfl ?_
          refine wd_no 17 rfl (by kernel_rfl) rfl rfl rfl rfl ?_
          refine wd_no 18 rfl (by kernel_rfl) rfl rfl rfl rfl ?_
          refine wd_no 19 rfl (by kernel_rfl) rfl rfl rfl rfl ?_
          refine wd_nou 20 rfl (by kernel_rfl) rfl rfl rfl ?_
          refine wd_nou 21 rfl (by kernel_rfl) rfl rfl rfl ?_
          refine wd_nou 22 rfl (by kernel_rfl) rfl rfl rfl ?_
          refine wd_no 23 rfl (by kernel_rfl) rfl rfl rfl rfl ?_
          refine wd_y 24 rfl (by kernel_rfl) rfl (y_pickT rfl rfl) ?_
          refine wd_nil (by kernel_rfl) ?_
          exact ⟨(Sub.cons rfl (Sub.cons rfl (Sub.cons rfl (Sub.cons rfl (Sub.cons rfl (Sub.to rfl (mb_t (by first | omega | exact ⟨fun h => ⟨(by assumption), h⟩, fun h => h.2⟩ | simp [*])) Sub.nil)))))), fun _ h => h⟩
        ·
          refine wd_yg 10 rfl (by kernel_rfl) rfl rfl rfl (y_move rfl) ?_
          refine wd_yg 11 rfl (by kernel_rfl) rfl rfl rfl (y_move rfl) ?_
          refine wd_yg 12 rfl (by kernel_rfl) rfl rfl rfl (y_index1 Try.underlying22 sz5 rfl rfl (h_u.c _) (by omega) (by omega)) ?_
          refine wd_yg 13 rfl (by kernel_rfl) rfl rfl rfl (y_ldI Try.underlying5 rfl rfl (h_u.c _) (by omega) (by omega)) ?_
          refine wd_yg 14 rfl (by kernel_rfl) rfl rfl rfl (y_move rfl) ?_
          refine wd_yg 15 rfl (by kernel_rfl) rfl rfl rfl (y_move rfl) ?_
          refine wd_yg 16 rfl (by kernel_rfl) rfl rfl rfl (y_index1 Try.underlying22 sz5 rfl rfl (h_u.c _) (by omega) (by omega)) ?_
          refine wd_yg 17 rfl (by kernel_rfl) rfl rfl rfl (y_ldI Try.underlying5 rfl rfl (h_u.c _) (by omega) (by omega)) ?_
          refine wd_yg 18 rfl (by kernel_rfl) rfl rfl rfl (y_eq rfl rfl) ?_
          refine wd_yg 19 rfl (by kernel_rfl) rfl rfl rfl (y_move rfl) ?_
          refine wd_case 38 rfl (fun hc4 => ?_) (fun hc4 => ?_)
          ·
            refine wd_yg 20 rfl (by kernel_rfl) rfl rfl rfl (y_move rfl) ?_
            refine wd_yg 21 rfl (by kernel_rfl) rfl rfl rfl (y_move rfl) ?_
            refine wd_yg 22 rfl (by kernel_rfl) rfl rfl rfl (y_lt rfl rfl) ?_
            refine wd_yg 23 rfl (by kernel_rfl) rfl rfl rfl (y_pickT rfl rfl) ?_
            refine wd_y 24 rfl (by kernel_rfl) rfl (y_pickF rfl rfl) ?_
            refine wd_nil (by kernel_rfl) ?_
            exact ⟨(Sub.cons rfl (Sub.cons rfl (Sub.cons rfl (Sub.cons rfl (Sub.cons rfl (Sub.to rfl (mb (by first | omega | exact ⟨fun h => ⟨(by assumption), h⟩, fun h => h.2⟩ | simp [*])) Sub.nil)))))), fun _ h => h⟩
          ·
            refine wd_no 20 rfl (by kernel_rfl) rfl rfl rfl rfl ?_
            refine wd_no 21 rfl (by kernel_rfl) rfl rfl rfl rfl ?_
            refine wd_no 22 rfl (by kernel_rfl) rfl rfl rfl rfl ?_
            refine wd_yg 23 rfl (by kernel_rfl) rfl rfl rfl (y_pickF rfl rfl) ?_
            refine wd_y 24 rfl (by kernel_rfl) rfl (y_pickF rfl rfl) ?_
            refine wd_nil (by kernel_rfl) ?_
            exact ⟨(Sub.cons rfl (Sub.cons rfl (Sub.cons rfl (Sub.cons rfl (Sub.cons rfl (Sub.to rfl (mb_f (by first | omega | exact ⟨fun h => ⟨(by assumption), h⟩, fun h => h.2⟩ | simp [*])) Sub.nil)))))), fun _ h => h⟩
      refine w_if rfl (fun hc5 => ?_) (fun hc5 => ?_)
      ·
        refine w_reg ?_
        refine wr_y rfl (y_move rfl) ?_
        refine wr_y rfl (y_addI rfl rfl (by omega)) ?_
        refine wr_y rfl (y_assign rfl) ?_
        refine wr_nil ?_
        refine w_reg ?_
        refine wr_y rfl (y_move rfl) ?_
        refine wr_y rfl (y_addI rfl rfl (by omega)) ?_
        refine wr_y rfl (y_assign rfl) ?_
        refine wr_nil ?_
        exact ⟨j + 1, z + 1, ⟨(by omega), (by omega), (cnt0_yes hj0 hz (by assumption))⟩, (by omega), (Sub.cons rfl (Sub.cons rfl (Sub.cons rfl (Sub.cons rfl (Sub.cons rfl Sub.nil))))), fun _ h => h⟩
      ·
        refine w_skip ?_
        refine w_reg ?_
        refine wr_y rfl (y_move rfl) ?_
        refine wr_y rfl (y_addI rfl rfl (by omega)) ?_
        refine wr_y rfl (y_assign rfl) ?_
        refine wr_nil ?_
        exact ⟨j + 1, z, ⟨(by omega), (by omega), (cnt0_no hj0 hz (by assumption))⟩, (by omega), (Sub.cons rfl (Sub.cons rfl (Sub.cons rfl (Sub.cons rfl (Sub.cons rfl Sub.nil))))), fun _ h => h⟩
    ·
      refine w_exit ?_
      refine w_reg ?_
      refine wr_y rfl (y_move rfl) ?_
      refine wr_y rfl (y_move rfl) ?_
      refine wr_a rfl (a_litI .i64 [z] Try.underlying35 zs3 rfl rfl rfl) ?_
      rintro _ _ ⟨g_2, rfl, rfl⟩
      refine wr_a rfl (a_appendI 1 rfl Try.underlying35 zb3 rfl rfl rfl (rdr 0 rfl) (by omega)) ?_
      rintro _ _ ⟨A_3, c_4, rfl, rfl⟩
      refine wr_rows (R1 := [⟨3, 1, (some ⟨g_2, 0, none⟩), 1, 1, ints .i64 ([z]), false⟩, ⟨3, 1, A_3, (n1 + 1), c_4, ints .i64 (acc ++ ([z])), false⟩]) rfl ?_
      refine wr_as (v := .slice A_3 (n1 + 1) c_4) rfl ?_
      refine wr_y rfl (y_assign rfl) ?_
      refine wr_nil ?_
      refine w_reg ?_
      refine wr_y rfl (y_move rfl) ?_
      refine wr_y rfl (y_addI rfl rfl (by omega)) ?_
      refine wr_y rfl (y_assign rfl) ?_
      refine wr_nil ?_
      exact ⟨A_3, n1 + 1, c_4, acc ++ ([z]), i + 1, ⟨(by rw [List.length_append, hn1]; try rfl), (by omega), (by omega), (fsL_step hi0 (by omega) (by omega) hz hacc)⟩, (by omega), (Sub.cons rfl (Sub.cons rfl (Sub.cons rfl Sub.nil))), fun _ h => h.sel [1] (by decide) rfl⟩
  ·
    refine w_exit ?_
    refine w_seq ?_
    refine w_reg ?_
    refine wr_y rfl (y_move rfl) ?_
    refine wr_y rfl (y_assign rfl) ?_
    refine wr_nil ?_
    refine w_retR (R1 := [⟨3, 1, A1, n1, c1, ints .i64 acc, false⟩]) (fun _ h => h.sel [0] (by decide) rfl) ?_
    refine ⟨_, rfl, ?_⟩
    obtain rfl : acc = fsL u := by rw [hacc, show i.toNat = u.length by omega]; rfl
    obtain rfl := hn1
    exact ⟨_, _, rfl, rfl⟩

/-! whorl/lf.Cycles -/
set_option maxRecDepth 100000 in
set_option maxHeartbeats 1500000 in
theorem cycles_ct {w : World} {A_p : Option Addr} {n_p c_p : Nat} {p : List Int} (h_p : Rd w A_p n_p c_p 1 (ints .i64 p)) (hp : p.Perm (iota p.length)) (hN : p.length ≤ 1000000) :
    Ct Try.prog 48 #[.slice A_p n_p c_p] w.heap.size w [] (fun v R' => ∃ (A : Option Addr) (c : Nat) (vals : List Value) (Rs : List Row), v = .tuple #[.slice A vals.length c, .bool true] ∧ SlR .i64 Rs vals (cycL p) ∧ R' = ⟨35, 1, A, vals.length, c, vals, false⟩ :: Rs) := by
  obtain rfl := h_p.lenI
  refine fn2 Try.func48 rfl rfl rfl ?_
  have m_p := h_p.max
  refine w_seq ?_
  refine w_reg ?_
  refine wr_y rfl (y_assign rfl) ?_
  refine wr_y rfl (y_assign rfl) ?_
  refine wr_nil ?_
  refine w_seq ?_
  refine w_seq ?_
  refine w_reg ?_
  refine wr_y rfl (y_move rfl) ?_
  refine wr_a rfl (a_callF en73 rfl (Ct.quiet (fun w hw => ris_ct ((h_p.c _) w hw) hp hN))) ?_
  rintro _ _ ⟨rfl, rfl⟩
  refine wr_y rfl (y_not rfl) ?_
  refine wr_nil ?_
  refine w_false rfl ?_
  refine w_skip ?_
  refine w_seq ?_
  refine w_reg ?_
  refine wr_y rfl (y_move rfl) ?_
  refine wr_y rfl (y_len Try.underlying35 rfl) ?_
  refine wr_a rfl (a_makeB Try.underlying90 zb4 rfl rfl (by omega) (by omega) (by omega)) ?_
  rintro _ _ ⟨g_1, rfl, rfl⟩
  refine wr_rows (R1 := (⟨4, 1, (some ⟨g_1, 0, none⟩), p.length, p.length, bools (List.replicate p.length false), false⟩ :: [])) rfl ?_
  refine wr_as (v := .slice (some ⟨g_1, 0, none⟩) p.length p.length) rfl ?_
  refine wr_y rfl (y_assign rfl) ?_
  refine wr_nil ?_
  refine w_seq ?_
  refine w_reg ?_
  refine wr_a rfl (a_lit [] Try.underlying62 zs35 rfl rfl rfl rfl) ?_
  rintro _ _ ⟨g_3, rfl, rfl⟩
  refine wr_y rfl (y_assign rfl) ?_
  refine wr_nil ?_
  refine w_seq ?_
  refine w_seq ?_
  refine w_reg ?_
  refine wr_y rfl (y_move rfl) ?_
  refine wr_y rfl (y_len Try.underlying35 rfl) ?_
  refine wr_y rfl (y_move rfl) ?_
  refine wr_nil ?_
  refine w_block ?_
  refine w_loop8 (fun (i : Int) (A1 : Option Addr) (n1 : Nat) (c1 : Nat) (vals : List Value) (ls : List (List Int)) (E : List Bool) (Rs : List Row) => [(0, .slice A_p p.length c_p), (4, .slice (some ⟨g_1, 0, none⟩) p.length p.length), (5, .slice A1 n1 c1), (17, .int .i64 ((p.length : Nat) : Int)), (18, .int .i64 i)]) (fun (i : Int) (A1 : Option Addr) (n1 : Nat) (c1 : Nat) (vals : List Value) (ls : List (List Int)) (E : List Bool) (Rs : List Row) => (⟨35, 1, A1, n1, c1, vals, false⟩ :: ⟨4, 1, (some ⟨g_1, 0, none⟩), p.length, p.length, bools E, false⟩ :: Rs)) (fun (i : Int) (A1 : Option Addr) (n1 : Nat) (c1 : Nat) (vals : List Value) (ls : List (List Int)) (E : List Bool) (Rs : List Row) => (0 ≤ i) ∧ (i ≤ p.length) ∧ (n1 = vals.length) ∧ (SlR .i64 Rs vals ls) ∧ (cycK p i.toNat = (E, ls))) (fun (i : Int) (A1 : Option Addr) (n1 : Nat) (c1 : Nat) (vals : List Value) (ls : List (List Int)) (E : List Bool) (Rs : List Row) => (p.length - i).toNat) ?_ ?_
  ·
    exact ⟨0, some ⟨g_3, 0, none⟩, 0, 0, [], [], List.replicate p.length false, [], ⟨(by omega), (by omega), (rfl), (SlR.nil _), (rfl)⟩, (Sub.cons rfl (Sub.cons rfl (Sub.cons rfl (Sub.cons rfl (Sub.cons rfl Sub.nil))))), fun _ h => h⟩
  intro i A1 n1 c1 vals ls E Rs ⟨hi0, hi1, hn1, hsl, hcy⟩
  have hEl : E.length = p.length := by have h := (cycK_facts hp i.toNat (by omega)).1; rw [hcy] at h; exact h
  have hfew : vals.length ≤ i.toNat := by have h := cycK_few p i.toNat; rw [hcy] at h; rw [hsl.1]; exact h
  refine w_seq ?_
  refine w_reg ?_
  refine wr_y rfl (y_lt rfl rfl) ?_
  refine wr_nil ?_
  refine w_seq ?_
  refine w_if rfl (fun hc1 => ?_) (fun hc1 => ?_)
  ·
    refine w_skip ?_
    refine w_seq ?_
    refine w_block ?_
    refine w_seq ?_
    refine w_reg ?_
    refine wr_y rfl (y_move rfl) ?_
    refine wr_y rfl (y_assign rfl) ?_
    refine wr_nil ?_
    refine w_seq ?_
    refine w_reg ?_
    refine wr_sub (R1 := (⟨3, 1, none, 0, 0, ints .i64 ([]), false⟩ :: ⟨35, 1, A1, n1, c1, vals, false⟩ :: ⟨4, 1, (some ⟨g_1, 0, none⟩), p.length, p.length, bools E, false⟩ :: Rs)) (Sub.refl _) (fun _ h => h.nil 3 1) ?_
    refine wr_y rfl (y_assign rfl) ?_
    refine wr_nil ?_
    refine w_seq ?_
    refine w_seq ?_
    refine w_reg ?_
    refine wr_y rfl (y_move rfl) ?_
    refine wr_y rfl (y_assign rfl) ?_
    refine wr_nil ?_
    refine w_block ?_
    refine w_loop7 (fun (k : Int) (A2 : Option Addr) (n2 : Nat) (c2 : Nat) (acc : List Int) (E2 : List Bool) (f : Nat) => [(0, .slice A_p p.length c_p), (4, .slice (some ⟨g_1, 0, none⟩) p.length p.length), (5, .slice A1 n1 c1), (7, .slice A2 n2 c2), (8, .int .i64 k), (17, .int .i64 ((p.length : Nat) : Int)), (18, .int .i64 i)]) (fun (k : Int) (A2 : Option Addr) (n2 : Nat) (c2 : Nat) (acc : List Int) (E2 : List Bool) (f : Nat) => (⟨3, 1, A2, n2, c2, ints .i64 acc, false⟩ :: ⟨35, 1, A1, n1, c1, vals, false⟩ :: ⟨4, 1, (some ⟨g_1, 0, none⟩), p.length, p.length, bools E2, false⟩ :: Rs)) (fun (k : Int) (A2 : Option Addr) (n2 : Nat) (c2 : Nat) (acc : List Int) (E2 : List Bool) (f : Nat) => (0 ≤ k) ∧ (k < p.length) ∧ (n2 = acc.length) ∧ (E2.length = p.length) ∧ (cntF E2 ≤ f) ∧ ((acc ++ (walkC p f E2 k).1, (walkC p f E2 k).2) = walkC p p.length E i)) (fun (k : Int) (A2 : Option Addr) (n2 : Nat) (c2 : Nat) (acc : List Int) (E2 : List Bool) (f : Nat) => f) ?_ ?_
    ·
      exact ⟨i, none, 0, 0, [], E, p.length, ⟨(by omega), (by omega), (rfl), (hEl), (by have : cntF E ≤ E.length := List.countP_le_length; omega), (rfl)⟩, (Sub.cons rfl (Sub.cons rfl (Sub.cons rfl (Sub.cons rfl (Sub.cons rfl (Sub.cons rfl (Sub.cons rfl Sub.nil))))))), fun _ h => h⟩
    intro k A2 n2 c2 acc E2 f ⟨hk0, hk1, hn2, hE2l, hf, hw⟩
    have hal := walk_bound hp hEl hi0 (by omega) hw
    refine w_seq ?_
    refine w_seq ?_
    refine w_reg ?_
    refine wr_y rfl (y_move rfl) ?_
    refine wr_y rfl (y_move rfl) ?_
    refine wr_y rfl (y_index1 Try.underlying90 sz4 rfl rfl (rdr 2 rfl) (by omega) (by omega)) ?_
    refine wr_y rfl (y_ldB Try.underlying4 rfl rfl (rdr 2 rfl) (by omega) (by omega)) ?_
    refine wr_y rfl (y_notD rfl) ?_
    refine wr_nil ?_
    refine w_if rfl (fun hc2 => ?_) (fun hc2 => ?_)
    ·
      have hgo := walkC_go (p := p) hk0 (by omega) hf hc2
      have hup := cntF_upd hk0 (by omega) hc2
      have hpos := cntF_pos hk0 (by omega) hc2
      have hpk := mem_iota.1 (hp.subset (rd_mem (L := p) hk0 hk1))
      refine w_skip ?_
      refine w_seq ?_
      refine w_block ?_
      refine w_seq ?_
      refine w_reg ?_
      refine wr_y rfl (y_move rfl) ?_
      refine wr_y rfl (y_move rfl) ?_
      refine wr_y rfl (y_index1 Try.underlying90 sz4 rfl rfl (rdr 2 rfl) (by omega) (by omega)) ?_
      refine wr_n (a_storeB 2 rfl sz4 rfl rfl (by omega) (by omega)) ?_
      rintro _ _ rfl
      refine wr_rows (R1 := (⟨3, 1, A2, n2, c2, ints .i64 acc, false⟩ :: ⟨35, 1, A1, n1, c1, vals, false⟩ :: ⟨4, 1, (some ⟨g_1, 0, none⟩), p.length, p.length, bools (updB E2 k true), false⟩ :: Rs)) rfl ?_
      refine wr_nil ?_
      refine w_reg ?_
      refine wr_y rfl (y_move rfl) ?_
      refine wr_y rfl (y_move rfl) ?_
      refine wr_a rfl (a_litI .i64 [k] Try.underlying35 zs3 rfl rfl rfl) ?_
      rintro _ _ ⟨g_6, rfl, rfl⟩
      refine wr_a rfl (a_appendI 1 rfl Try.underlying35 zb3 rfl rfl rfl (rdr 0 rfl) (by omega)) ?_
      rintro _ _ ⟨A_7, c_8, rfl, rfl⟩
      refine wr_rows (R1 := (⟨3, 1, (some ⟨g_6, 0, none⟩), 1, 1, ints .i64 ([k]), false⟩ :: ⟨3, 1, A_7, (n2 + 1), c_8, ints .i64 (acc ++ ([k])), false⟩ :: ⟨35, 1, A1, n1, c1, vals, false⟩ :: ⟨4, 1, (some ⟨g_1, 0, none⟩), p.length, p.length, bools (updB E2 k true), false⟩ :: Rs)) rfl ?_
      refine wr_as (v := .slice A_7 (n2 + 1) c_8) rfl ?_
      refine wr_y rfl (y_assign rfl) ?_
      refine wr_nil ?_
      refine w_reg ?_
      refine wr_y rfl (y_move rfl) ?_
      refine wr_y rfl (y_move rfl) ?_
      refine wr_y rfl (y_index1 Try.underlying35 sz3 rfl rfl (h_p.c _) (by omega) (by omega)) ?_
      refine wr_y rfl (y_ldI Try.underlying3 rfl rfl (h_p.c _) (by omega) (by omega)) ?_
      refine wr_y rfl (y_assign rfl) ?_
      refine wr_nil ?_
      exact ⟨rd p k, A_7, n2 + 1, c_8, acc ++ ([k]), updB E2 k true, (f - 1), ⟨(by omega), (by omega), (by rw [List.length_append, hn2]; rfl), (by rw [updB_len]; exact hE2l), (by omega), (by rw [← hw, hgo]; simp only [List.append_assoc, List.singleton_append])⟩, (by omega), (Sub.cons rfl (Sub.cons rfl (Sub.cons rfl (Sub.cons rfl (Sub.cons rfl (Sub.cons rfl (Sub.cons rfl Sub.nil))))))), fun _ h => h.selR (F := [_, _, _, _]) (F' := [_, _, _]) [1, 2, 3] (by decide) rfl⟩
    ·
      have hse : walkC p p.length E i = (acc, E2) := by rw [← hw, walkC_seen (Decidable.not_not.1 hc2), List.append_nil]
      refine w_exit ?_
      refine w_seq ?_
      refine w_reg ?_
      refine wr_y rfl (y_move rfl) ?_
      refine wr_y rfl (y_len Try.underlying35 rfl) ?_
      refine wr_y rfl (y_gt rfl rfl) ?_
      refine wr_nil ?_
      refine w_if rfl (fun hc3 => ?_) (fun hc3 => ?_)
      ·
        refine w_reg ?_
        refine wr_y rfl (y_move rfl) ?_
        refine wr_y rfl (y_move rfl) ?_
        refine wr_a rfl (a_lit [.slice A2 n2 c2] Try.underlying62 zs35 rfl rfl rfl rfl) ?_
        rintro _ _ ⟨g_10, rfl, rfl⟩
        refine wr_a rfl (a_append 2 rfl rfl Try.underlying62 zb35 rfl rfl rfl rfl rfl (rdr 0 rfl) (by simp [Value.oneCell']) (by dsimp only; omega)) ?_
        rintro _ _ ⟨A_11, c_12, rfl, rfl⟩
        refine wr_rows (R1 := (⟨35, 1, (some ⟨g_10, 0, none⟩), 1, 1, [.slice A2 n2 c2], false⟩ :: ⟨3, 1, A2, n2, c2, ints .i64 acc, false⟩ :: ⟨35, 1, A_11, (n1 + 1), c_12, vals ++ ([.slice A2 n2 c2]), false⟩ :: ⟨4, 1, (some ⟨g_1, 0, none⟩), p.length, p.length, bools E2, false⟩ :: Rs)) rfl ?_
        refine wr_as (v := .slice A_11 (n1 + 1) c_12) rfl ?_
        refine wr_y rfl (y_assign rfl) ?_
        refine wr_nil ?_
        refine w_reg ?_
        refine wr_y rfl (y_addI rfl rfl (by omega)) ?_
        refine wr_y rfl (y_move rfl) ?_
        refine wr_nil ?_
        exact ⟨i + 1, A_11, n1 + 1, c_12, vals ++ ([.slice A2 n2 c2]), (ls ++ [acc]), E2, (⟨3, 1, A2, n2, c2, ints .i64 acc, false⟩ :: Rs), ⟨(by omega), (by omega), (by rw [List.length_append, hn1]; rfl), (hsl.snoc hn2), (cyc_yes hi0 hcy hse (fun e => by rw [e] at hn2; simp at hn2; omega))⟩, (by omega), (Sub.cons rfl (Sub.cons rfl (Sub.cons rfl (Sub.cons rfl (Sub.cons rfl Sub.nil))))), fun _ h => h.selR (F := [_, _, _, _]) (F' := [_, _, _]) [2, 3, 1] (by decide) rfl⟩
      ·
        refine w_skip ?_
        refine w_reg ?_
        refine wr_y rfl (y_addI rfl rfl (by omega)) ?_
        refine wr_y rfl (y_move rfl) ?_
        refine wr_nil ?_
        exact ⟨i + 1, A1, n1, c1, vals, ls, E2, Rs, ⟨(by omega), (by omega), (hn1), (hsl), (cyc_no hi0 hcy hse (List.eq_nil_of_length_eq_zero (by omega)))⟩, (by omega), (Sub.cons rfl (Sub.cons rfl (Sub.cons rfl (Sub.cons rfl (Sub.cons rfl Sub.nil))))), fun _ h => h.selR (F := [_, _, _]) (F' := [_, _]) [1, 2] (by decide) rfl⟩
  ·
    refine w_exit ?_
    refine w_seq ?_
    refine w_reg ?_
    refine wr_y rfl (y_move rfl) ?_
    refine wr_y rfl (y_assign rfl) ?_
    refine wr_y rfl (y_assign rfl) ?_
    refine wr_nil ?_
    refine w_retR (R1 := (⟨35, 1, A1, n1, c1, vals, false⟩ :: Rs)) (fun _ h => h.selR (F := [_, _]) (F' := [_]) [0] (by decide) rfl) ?_
    refine ⟨_, _, rfl, rfl, ?_⟩
    obtain rfl : ls = cycL p := by unfold cycL; rw [← show i.toNat = p.length by omega, hcy]
    subst hn1
    exact ⟨_, _, vals, Rs, rfl, hsl, rfl⟩

/-! whorl/whorlref22.Cycles -/
set_option maxRecDepth 100000 in
set_option maxHeartbeats 1500000 in
theorem cycles22_ct {w : World} {A_p : Option Addr} {n_p c_p : Nat} {p : List Int} (h_p : Rd w A_p n_p c_p 1 (ints .i64 p)) (hp : p.Perm (iota p.length)) (hN : p.length ≤ 1000000) :
    Ct Try.prog 52 #[.slice A_p n_p c_p] w.heap.size w [] (fun v R' => ∃ (A : Option Addr) (c : Nat) (vals : List Value) (Rs : List Row), v = .tuple #[.slice A vals.length c, .bool true] ∧ SlR .i64 Rs vals (cycL p) ∧ R' = ⟨35, 1, A, vals.length, c, vals, false⟩ :: Rs) := by
  obtain rfl := h_p.lenI
  refine fn2 Try.func52 rfl rfl rfl ?_
  have m_p := h_p.max
  refine w_seq ?_
  refine w_reg ?_
  refine wr_y rfl (y_assign rfl) ?_
  refine wr_y rfl (y_assign rfl) ?_
  refine wr_nil ?_
  refine w_seq ?_
  refine w_seq ?_
  refine w_reg ?_
  refine wr_y rfl (y_move rfl) ?_
  refine wr_a rfl (a_callF en78 rfl (Ct.quiet (fun w hw => is16_ct ((h_p.c _) w hw) hp hN))) ?_
  rintro _ _ ⟨rfl, rfl⟩
  refine wr_y rfl (y_not rfl) ?_
  refine wr_nil ?_
  refine w_false rfl ?_
  refine w_skip ?_
  refine w_seq ?_
  refine w_reg ?_
  refine wr_y rfl (y_move rfl) ?_
  refine wr_y rfl (y_len Try.underlying35 rfl) ?_
  refine wr_a rfl (a_makeB Try.underlying90 zb4 rfl rfl (by omega) (by omega) (by omega)) ?_
  rintro _ _ ⟨g_1, rfl, rfl⟩
  refine wr_rows (R1 := (⟨4, 1, (some ⟨g_1, 0, none⟩), p.length, p.length, bools (List.replicate p.length false), false⟩ :: [])) rfl ?_
  refine wr_as (v := .slice (some ⟨g_1, 0, none⟩) p.length p.length) rfl ?_
  refine wr_y rfl (y_assign rfl) ?_
  refine wr_nil ?_
  refine w_seq ?_
  refine w_reg ?_
  refine wr_sub (R1 := (⟨35, 1, none, 0, 0, [], false⟩ :: ⟨4, 1, (some ⟨g_1, 0, none⟩), p.length, p.length, bools (List.replicate p.length false), false⟩ :: [])) (Sub.refl _) (fun _ h => h.nil 35 1) ?_
  refine wr_y rfl (y_assign rfl) ?_
  refine wr_nil ?_
  refine w_seq ?_
  refine w_seq ?_
  refine w_reg ?_
  refine wr_y rfl (y_assign rfl) ?_
  refine wr_nil ?_
  refine w_block ?_
  refine w_loop8 (fun (i : Int) (A1 : Option Addr) (n1 : Nat) (c1 : Nat) (vals : List Value) (ls : List (List Int)) (E : List Bool) (Rs : List Row) => [(0, .slice A_p p.length c_p), (4, .slice (some ⟨g_1, 0, none⟩) p.length p.length), (5, .slice A1 n1 c1), (6, .int .i64 i)]) (fun (i : Int) (A1 : Option Addr) (n1 : Nat) (c1 : Nat) (vals : List Value) (ls : List (List Int)) (E : List Bool) (Rs : List Row) => (⟨35, 1, A1, n1, c1, vals, false⟩ :: ⟨4, 1, (some ⟨g_1, 0, none⟩), p.length, p.length, bools E, false⟩ :: Rs)) (fun (i : Int) (A1 : Option Addr) (n1 : Nat) (c1 : Nat) (vals : List Value) (ls : List (List Int)) (E : List Bool) (Rs : List Row) => (0 ≤ i) ∧ (i ≤ p.length) ∧ (n1 = vals.length) ∧ (SlR .i64 Rs vals ls) ∧ (cycK p i.toNat = (E, ls))) (fun (i : Int) (A1 : Option Addr) (n1 : Nat) (c1 : Nat) (vals : List Value) (ls : List (List Int)) (E : List Bool) (Rs : List Row) => (p.length - i).toNat) ?_ ?_
  ·
    exact ⟨0, none, 0, 0, [], [], List.replicate p.length false, [], ⟨(by omega), (by omega), (rfl), (SlR.nil _), (rfl)⟩, (Sub.cons rfl (Sub.cons rfl (Sub.cons rfl (Sub.cons rfl Sub.nil)))), fun _ h => h⟩
  intro i A1 n1 c1 vals ls E Rs ⟨hi0, hi1, hn1, hsl, hcy⟩
  have hEl : E.length = p.length := by have h := (cycK_facts hp i.toNat (by omega)).1; rw [hcy] at h; exact h
  have hfew : vals.length ≤ i.toNat := by have h := cycK_few p i.toNat; rw [hcy] at h; rw [hsl.1]; exact h
  refine w_seq ?_
  refine w_seq ?_
  refine w_reg ?_
  refine wr_y rfl (y_move rfl) ?_
  refine wr_y rfl (y_move rfl) ?_
  refine wr_y rfl (y_len Try.underlying35 rfl) ?_
  refine wr_y rfl (y_lt rfl rfl) ?_
  refine wr_nil ?_
  refine w_if rfl (fun hc1 => ?_) (fun hc1 => ?_)
  ·
    refine w_skip ?_
    refine w_seq ?_
    refine w_block ?_
    refine w_seq ?_
    refine w_reg ?_
    refine wr_sub (R1 := (⟨3, 1, none, 0, 0, ints .i64 ([]), false⟩ :: ⟨35, 1, A1, n1, c1, vals, false⟩ :: ⟨4, 1, (some ⟨g_1, 0, none⟩), p.length, p.length, bools E, false⟩ :: Rs)) (Sub.refl _) (fun _ h => h.nil 3 1) ?_
    refine wr_y rfl (y_assign rfl) ?_
    refine wr_nil ?_
    refine w_seq ?_
    refine w_seq ?_
    refine w_reg ?_
    refine wr_y rfl (y_move rfl) ?_
    refine wr_y rfl (y_assign rfl) ?_
    refine wr_nil ?_
    refine w_block ?_
    refine w_loop7 (fun (k : Int) (A2 : Option Addr) (n2 : Nat) (c2 : Nat) (acc : List Int) (E2 : List Bool) (f : Nat) => [(0, .slice A_p p.length c_p), (4, .slice (some ⟨g_1, 0, none⟩) p.length p.length), (5, .slice A1 n1 c1), (6, .int .i64 i), (7, .slice A2 n2 c2), (8, .int .i64 k)]) (fun (k : Int) (A2 : Option Addr) (n2 : Nat) (c2 : Nat) (acc : List Int) (E2 : List Bool) (f : Nat) => (⟨3, 1, A2, n2, c2, ints .i64 acc, false⟩ :: ⟨35, 1, A1, n1, c1, vals, false⟩ :: ⟨4, 1, (some ⟨g_1, 0, none⟩), p.length, p.length, bools E2, false⟩ :: Rs)) (fun (k : Int) (A2 : Option Addr) (n2 : Nat) (c2 : Nat) (acc : List Int) (E2 : List Bool) (f : Nat) => (0 ≤ k) ∧ (k < p.length) ∧ (n2 = acc.length) ∧ (E2.length = p.length) ∧ (cntF E2 ≤ f) ∧ ((acc ++ (walkC p f E2 k).1, (walkC p f E2 k).2) = walkC p p.length E i)) (fun (k : Int) (A2 : Option Addr) (n2 : Nat) (c2 : Nat) (acc : List Int) (E2 : List Bool) (f : Nat) => f) ?_ ?_
    ·
      exact ⟨i, none, 0, 0, [], E, p.length, ⟨(by omega), (by omega), (rfl), (hEl), (by have : cntF E ≤ E.length := List.countP_le_length; omega), (rfl)⟩, (Sub.cons rfl (Sub.cons rfl (Sub.cons rfl (Sub.cons rfl (Sub.cons rfl (Sub.cons rfl Sub.nil)))))), fun _ h => h⟩
    intro k A2 n2 c2 acc E2 f ⟨hk0, hk1, hn2, hE2l, hf, hw⟩
    have hal := walk_bound hp hEl hi0 (by omega) hw
    refine w_seq ?_
    refine w_seq ?_
    refine w_reg ?_
    refine wr_y rfl (y_move rfl) ?_
    refine wr_y rfl (y_move rfl) ?_
    refine wr_y rfl (y_index1 Try.underlying90 sz4 rfl rfl (rdr 2 rfl) (by omega) (by omega)) ?_
    refine wr_y rfl (y_ldB Try.underlying4 rfl rfl (rdr 2 rfl) (by omega) (by omega)) ?_
    refine wr_y rfl (y_notD rfl) ?_
    refine wr_nil ?_
    refine w_if rfl (fun hc2 => ?_) (fun hc2 => ?_)
    ·
      have hgo := walkC_go (p := p) hk0 (by omega) hf hc2
      have hup := cntF_upd hk0 (by omega) hc2
      have hpos := cntF_pos hk0 (by omega) hc2
      have hpk := mem_iota.1 (hp.subset (rd_mem (L := p) hk0 hk1))
      refine w_skip ?_
      refine w_seq ?_
      refine w_block ?_
      refine w_seq ?_
      refine w_reg ?_
      refine wr_y rfl (y_move rfl) ?_
      refine wr_y rfl (y_move rfl) ?_
      refine wr_y rfl (y_index1 Try.underlying90 sz4 rfl rfl (rdr 2 rfl) (by omega) (by omega)) ?_
      refine wr_n (a_storeB 2 rfl sz4 rfl rfl (by omega) (by omega)) ?_
      rintro _ _ rfl
      refine wr_rows (R1 := (⟨3, 1, A2, n2, c2, ints .i64 acc, false⟩ :: ⟨35, 1, A1, n1, c1, vals, false⟩ :: ⟨4, 1, (some ⟨g_1, 0, none⟩), p.length, p.length, bools (updB E2 k true), false⟩ :: Rs)) rfl ?_
      refine wr_nil ?_
      refine w_reg ?_
      refine wr_y rfl (y_move rfl) ?_
      refine wr_y rfl (y_move rfl) ?_
      refine wr_a rfl (a_litI .i64 [k] Try.underlying35 zs3 rfl rfl rfl) ?_
      rintro _ _ ⟨g_3, rfl, rfl⟩
      refine wr_a rfl (a_appendI 1 rfl Try.underlying35 zb3 rfl rfl rfl (rdr 0 rfl) (by omega)) ?_
      rintro _ _ ⟨A_4, c_5, rfl, rfl⟩
      refine wr_rows (R1 := (⟨3, 1, (some ⟨g_3, 0, none⟩), 1, 1, ints .i64 ([k]), false⟩ :: ⟨3, 1, A_4, (n2 + 1), c_5, ints .i64 (acc ++ ([k])), false⟩ :: ⟨35, 1, A1, n1, c1, vals, false⟩ :: ⟨4, 1, (some ⟨g_1, 0, none⟩), p.length, p.length, bools (updB E2 k true), false⟩ :: Rs)) rfl ?_
      refine wr_as (v := .slice A_4 (n2 + 1) c_5) rfl ?_
      refine wr_y rfl (y_assign rfl) ?_
      refine wr_nil ?_
      refine w_reg ?_
      refine wr_y rfl (y_move rfl) ?_
      refine wr_y rfl (y_move rfl) ?_
      refine wr_y rfl (y_index1 Try.underlying35 sz3 rfl rfl (h_p.c _) (by omega) (by omega)) ?_
      refine wr_y rfl (y_ldI Try.underlying3 rfl rfl (h_p.c _) (by omega) (by omega)) ?_
      refine wr_y rfl (y_assign rfl) ?_
      refine wr_nil ?_
      exact ⟨rd p k, A_4, n2 + 1, c_5, acc ++ ([k]), updB E2 k true, (f - 1), ⟨(by omega), (by omega), (by rw [List.length_append, hn2]; rfl), (by rw [updB_len]; exact hE2l), (by omega), (by rw [← hw, hgo]; simp only [List.append_assoc, List.singleton_append])⟩, (by omega), (Sub.cons rfl (Sub.cons rfl (Sub.cons rfl (Sub.cons rfl (Sub.cons rfl (Sub.cons rfl Sub.nil)))))), fun _ h => h.selR (F := [_, _, _, _]) (F' := [_, _, _]) [1, 2, 3] (by decide) rfl⟩
    ·
      have hse : walkC p p.length E i = (acc, E2) := by rw [← hw, walkC_seen (Decidable.not_not.1 hc2), List.append_nil]
      refine w_exit ?_
      refine w_seq ?_
      refine w_reg ?_
      refine wr_y rfl (y_move rfl) ?_
      refine wr_y rfl (y_len Try.underlying35 rfl) ?_
      refine wr_y rfl (y_gt rfl rfl) ?_
      refine wr_nil ?_
      refine w_if rfl (fun hc3 => ?_) (fun hc3 => ?_)
      ·
        refine w_reg ?_
        refine wr_y rfl (y_move rfl) ?_
        refine wr_y rfl (y_move rfl) ?_
        refine wr_a rfl (a_lit [.slice A2 n2 c2] Try.underlying62 zs35 rfl rfl rfl rfl) ?_
        rintro _ _ ⟨g_7, rfl, rfl⟩
        refine wr_a rfl (a_append 2 rfl rfl Try.underlying62 zb35 rfl rfl rfl rfl rfl (rdr 0 rfl) (by simp [Value.oneCell']) (by dsimp only; omega)) ?_
        rintro _ _ ⟨A_8, c_9, rfl, rfl⟩
        refine wr_rows (R1 := (⟨35, 1, (some ⟨g_7, 0, none⟩), 1, 1, [.slice A2 n2 c2], false⟩ :: ⟨3, 1, A2, n2, c2, ints .i64 acc, false⟩ :: ⟨35, 1, A_8, (n1 + 1), c_9, vals ++ ([.slice A2 n2 c2]), false⟩ :: ⟨4, 1, (some ⟨g_1, 0, none⟩), p.length, p.length, bools E2, false⟩ :: Rs)) rfl ?_
        refine wr_as (v := .slice A_8 (n1 + 1) c_9) rfl ?_
        refine wr_y rfl (y_assign rfl) ?_
        refine wr_nil ?_
        refine w_reg ?_
        refine wr_y rfl (y_move rfl) ?_
        refine wr_y rfl (y_addI rfl rfl (by omega)) ?_
        refine wr_y rfl (y_assign rfl) ?_
        refine wr_nil ?_
        exact ⟨i + 1, A_8, n1 + 1, c_9, vals ++ ([.slice A2 n2 c2]), (ls ++ [acc]), E2, (⟨3, 1, A2, n2, c2, ints .i64 acc, false⟩ :: Rs), ⟨(by omega), (by omega), (by rw [List.length_append, hn1]; rfl), (hsl.snoc hn2), (cyc_yes hi0 hcy hse (fun e => by rw [e] at hn2; simp at hn2; omega))⟩, (by omega), (Sub.cons rfl (Sub.cons rfl (Sub.cons rfl (Sub.cons rfl Sub.nil)))), fun _ h => h.selR (F := [_, _, _, _]) (F' := [_, _, _]) [2, 3, 1] (by decide) rfl⟩
      ·
        refine w_skip ?_
        refine w_reg ?_
        refine wr_y rfl (y_move rfl) ?_
        refine wr_y rfl (y_addI rfl rfl (by omega)) ?_
        refine wr_y rfl (y_assign rfl) ?_
        refine wr_nil ?_
        exact ⟨i + 1, A1, n1, c1, vals, ls, E2, Rs, ⟨(by omega), (by omega), (hn1), (hsl), (cyc_no hi0 hcy hse (List.eq_nil_of_length_eq_zero (by omega)))⟩, (by omega), (Sub.cons rfl (Sub.cons rfl (Sub.cons rfl (Sub.cons rfl Sub.nil)))), fun _ h => h.selR (F := [_, _, _]) (F' := [_, _]) [1, 2] (by decide) rfl⟩
  ·
    refine w_exit ?_
    refine w_seq ?_
    refine w_reg ?_
    refine wr_y rfl (y_move rfl) ?_
    refine wr_y rfl (y_assign rfl) ?_
    refine wr_y rfl (y_assign rfl) ?_
    refine wr_nil ?_
    refine w_retR (R1 := (⟨35, 1, A1, n1, c1, vals, false⟩ :: Rs)) (fun _ h => h.selR (F := [_, _]) (F' := [_]) [0] (by decide) rfl) ?_
    refine ⟨_, _, rfl, rfl, ?_⟩
    obtain rfl : ls = cycL p := by unfold cycL; rw [← show i.toNat = p.length by omega, hcy]
    subst hn1
    exact ⟨_, _, vals, Rs, rfl, hsl, rfl⟩

end Go.Proofs.Ytdfcnalkdlifiaa
