/- Walks of Go functions, printed by a program of our own. -/
import Derived.Test.YtjgjjojecjeijaaI3
namespace Go.Proofs.Ytjgjjojecjeijaa
open Go Go.Eng Go.Pure
set_option linter.unusedVariables false
/-! whorl/whorlref16.Inverse -/
set_option maxRecDepth 100000 in
set_option maxHeartbeats 600000 in
theorem inv16_ct {w : World} {A_a : Option Addr} {n_a c_a : Nat} {a : List Int} (h_a : Rd w A_a n_a c_a 1 (ints .i64 a)) (hp : a.Perm (iota a.length)) (hN : a.length ≤ 1000000) :
    Ct Try.prog 40 #[.slice A_a n_a c_a] w.heap.size w [] (fun v R' => ∃ A c V, v = .tuple #[.slice A a.length c, .bool true] ∧ R' = [⟨3, 1, A, a.length, c, ints .i64 V, false⟩]) := by
  obtain rfl := h_a.lenI
  refine fn2 Try.func40 rfl rfl rfl ?_
  have m_a := h_a.max
  have hnd : a.Nodup := hp.symm.nodup (iota_nodup _)
  refine w_seq ?_
  refine w_reg ?_
  refine wr_y rfl (y_assign rfl) ?_
  refine wr_y rfl (y_assign rfl) ?_
  refine wr_nil ?_
  refine w_seq ?_
  refine w_reg ?_
  refine wr_y rfl (y_move rfl) ?_
  refine wr_y rfl (y_len Try.underlying23 rfl) ?_
  refine wr_a rfl (a_makeN Try.underlying23 zb3 rfl rfl (by omega) (by omega) (by omega)) ?_
  rintro _ _ ⟨g_1, rfl, rfl⟩
  refine wr_rows (R1 := [⟨3, 1, (some ⟨g_1, 0, none⟩), a.length, a.length, ints .i64 (List.replicate a.length (0 : Int)), false⟩]) rfl ?_
  refine wr_as (v := .slice (some ⟨g_1, 0, none⟩) a.length a.length) rfl ?_
  refine wr_y rfl (y_assign rfl) ?_
  refine wr_nil ?_
  refine w_seq ?_
  refine w_seq ?_
  refine w_reg ?_
  refine wr_y rfl (y_assign rfl) ?_
  refine wr_nil ?_
  refine w_block ?_
  refine w_loop2 (fun (q : Int) (D : List Int) => [(0, .slice A_a a.length c_a), (4, .slice (some ⟨g_1, 0, none⟩) a.length a.length), (5, .int .i64 q)]) (fun (q : Int) (D : List Int) => [⟨3, 1, (some ⟨g_1, 0, none⟩), a.length, a.length, ints .i64 D, false⟩]) (fun (q : Int) (D : List Int) => (0 ≤ q) ∧ (q ≤ a.length) ∧ (D.length = a.length) ∧ (∀ j : Int, 0 ≤ j → j < q → rd D j = -1)) (fun (q : Int) (D : List Int) => (a.length - q).toNat) ?_ ?_
  ·
    exact ⟨0, List.replicate a.length (0 : Int), ⟨(by omega), (by omega), (by rw [List.length_replicate]), (fun j h1 h2 => by omega)⟩, (Sub.cons rfl (Sub.cons rfl (Sub.cons rfl Sub.nil))), fun _ h => h⟩
  intro q D ⟨hq0, hq1, hDl, hD⟩
  refine w_seq ?_
  refine w_seq ?_
  refine w_reg ?_
  refine wr_y rfl (y_move rfl) ?_
  refine wr_y rfl (y_move rfl) ?_
  refine wr_y rfl (y_len Try.underlying23 rfl) ?_
  refine wr_y rfl (y_lt rfl rfl) ?_
  refine wr_nil ?_
  refine w_if rfl (fun hc1 => ?_) (fun hc1 => ?_)
  ·
    refine w_skip ?_
    refine w_seq ?_
    refine w_block ?_
    refine w_reg ?_
    refine wr_y rfl (y_move rfl) ?_
    refine wr_y rfl (y_move rfl) ?_
    refine wr_y rfl (y_index1 Try.underlying23 sz3 rfl rfl (rdr 0 rfl) (by omega) (by omega)) ?_
    refine wr_n (a_storeI 0 rfl sz3 rfl rfl (by omega) (by omega)) ?_
    rintro _ _ rfl
    refine wr_rows (R1 := [⟨3, 1, (some ⟨g_1, 0, none⟩), a.length, a.length, ints .i64 (upd D q (-1)), false⟩]) rfl ?_
    refine wr_nil ?_
    refine w_reg ?_
    refine wr_y rfl (y_move rfl) ?_
    refine wr_y rfl (y_addI rfl rfl (by omega)) ?_
    refine wr_y rfl (y_assign rfl) ?_
    refine wr_nil ?_
    exact ⟨q + 1, upd D q (-1), ⟨(by omega), (by omega), (by rw [upd_length]; exact hDl), (fill_step (f := fun _ => -1) hq0 (by omega) hD rfl)⟩, (by omega), (Sub.cons rfl (Sub.cons rfl (Sub.cons rfl Sub.nil))), fun _ h => h⟩
  ·
    refine w_exit ?_
    refine w_seq ?_
    refine w_seq ?_
    refine w_reg ?_
    refine wr_y rfl (y_assign rfl) ?_
    refine wr_nil ?_
    refine w_block ?_
    refine w_loop2 (fun (i : Int) (D : List Int) => [(0, .slice A_a a.length c_a), (4, .slice (some ⟨g_1, 0, none⟩) a.length a.length), (6, .int .i64 i)]) (fun (i : Int) (D : List Int) => [⟨3, 1, (some ⟨g_1, 0, none⟩), a.length, a.length, ints .i64 D, false⟩]) (fun (i : Int) (D : List Int) => (0 ≤ i) ∧ (i ≤ a.length) ∧ (D.length = a.length) ∧ (∀ x : Int, 0 ≤ x → x < a.length → 0 ≤ rd D x → ∃ q : Int, 0 ≤ q ∧ q < i ∧ rd a q = x)) (fun (i : Int) (D : List Int) => (a.length - i).toNat) ?_ ?_
    ·
      exact ⟨0, D, ⟨(by omega), (by omega), (hDl), (fun x h0 h1 h2 => by have := hD x h0 (by omega); omega)⟩, (Sub.cons rfl (Sub.cons rfl (Sub.cons rfl Sub.nil))), fun _ h => h⟩
    intro i D ⟨hi0, hi1, hDl, hV⟩
    refine w_seq ?_
    refine w_seq ?_
    refine w_reg ?_
    refine wr_y rfl (y_move rfl) ?_
    refine wr_y rfl (y_move rfl) ?_
    refine wr_y rfl (y_len Try.underlying23 rfl) ?_
    refine wr_y rfl (y_lt rfl rfl) ?_
    refine wr_nil ?_
    refine w_if rfl (fun hc2 => ?_) (fun hc2 => ?_)
    ·
      have ha := mem_iota.1 (hp.subset (rd_mem (L := a) hi0 (by omega)))
      refine w_skip ?_
      refine w_seq ?_
      refine w_block ?_
      refine w_seq ?_
      refine w_seq ?_
      refine w_reg ?_
      refine wr_y rfl (y_move rfl) ?_
      refine wr_y rfl (y_move rfl) ?_
      refine wr_y rfl (y_index1 Try.underlying23 sz3 rfl rfl (h_a.c _) (by omega) (by omega)) ?_
      refine wr_y rfl (y_ldI Try.underlying3 rfl rfl (h_a.c _) (by omega) (by omega)) ?_
      refine wr_y rfl (Yl.f (y_lt rfl rfl) (by omega)) ?_
      refine wr_y rfl (y_move rfl) ?_
      refine wr_yes rfl rfl ?_
      refine wr_y rfl (y_move rfl) ?_
      refine wr_yes rfl rfl ?_
      refine wr_y rfl (y_move rfl) ?_
      refine wr_yes rfl rfl ?_
      refine wr_y rfl (y_index1 Try.underlying23 sz3 rfl rfl (h_a.c _) (by omega) (by omega)) ?_
      refine wr_yes rfl rfl ?_
      refine wr_y rfl (y_ldI Try.underlying3 rfl rfl (h_a.c _) (by omega) (by omega)) ?_
      refine wr_yes rfl rfl ?_
      refine wr_y rfl (y_move rfl) ?_
      refine wr_yes rfl rfl ?_
      refine wr_y rfl (y_len Try.underlying23 rfl) ?_
      refine wr_yes rfl rfl ?_
      refine wr_y rfl (Yl.f (y_ge rfl rfl) (by omega)) ?_
      refine wr_y rfl (y_pickF rfl rfl) ?_
      refine wr_y rfl (y_move rfl) ?_
      refine wr_yes rfl rfl ?_
      refine wr_y rfl (y_move rfl) ?_
      refine wr_yes rfl rfl ?_
      refine wr_y rfl (y_move rfl) ?_
      refine wr_yes rfl rfl ?_
      refine wr_y rfl (y_move rfl) ?_
      refine wr_yes rfl rfl ?_
      refine wr_y rfl (y_index1 Try.underlying23 sz3 rfl rfl (h_a.c _) (by omega) (by omega)) ?_
      refine wr_yes rfl rfl ?_
      refine wr_y rfl (y_ldI Try.underlying3 rfl rfl (h_a.c _) (by omega) (by omega)) ?_
      refine wr_yes rfl rfl ?_
      refine wr_y rfl (y_index1 Try.underlying23 sz3 rfl rfl (rdr 0 rfl) (by omega) (by omega)) ?_
      refine wr_yes rfl rfl ?_
      refine wr_y rfl (y_ldI Try.underlying3 rfl rfl (rdr 0 rfl) (by omega) (by omega)) ?_
      refine wr_yes rfl rfl ?_
      refine wr_y rfl (Yl.f (y_ge rfl rfl) (fun h => by
            obtain ⟨q, q0, q1, e⟩ := hV _ ha.1 ha.2 h
            have := rd_inj hnd q0 (by omega) hi0 (by omega) e
            omega)) ?_
      refine wr_y rfl (y_pickF rfl rfl) ?_
      refine wr_nil ?_
      refine w_false rfl ?_
      refine w_skip ?_
      refine w_reg ?_
      refine wr_y rfl (y_move rfl) ?_
      refine wr_y rfl (y_move rfl) ?_
      refine wr_y rfl (y_move rfl) ?_
      refine wr_y rfl (y_index1 Try.underlying23 sz3 rfl rfl (h_a.c _) (by omega) (by omega)) ?_
      refine wr_y rfl (y_ldI Try.underlying3 rfl rfl (h_a.c _) (by omega) (by omega)) ?_
      refine wr_y rfl (y_move rfl) ?_
      refine wr_y rfl (y_index1 Try.underlying23 sz3 rfl rfl (rdr 0 rfl) (by omega) (by omega)) ?_
      refine wr_n (a_storeI 0 rfl sz3 rfl rfl (by omega) (by omega)) ?_
      rintro _ _ rfl
      refine wr_rows (R1 := [⟨3, 1, (some ⟨g_1, 0, none⟩), a.length, a.length, ints .i64 (upd D (rd a i) i), false⟩]) rfl ?_
      refine wr_nil ?_
      refine w_reg ?_
      refine wr_y rfl (y_move rfl) ?_
      refine wr_y rfl (y_addI rfl rfl (by omega)) ?_
      refine wr_y rfl (y_assign rfl) ?_
      refine wr_nil ?_
      exact ⟨i + 1, upd D (rd a i) i, ⟨(by omega), (by omega), (by rw [upd_length]; exact hDl), (fun x x0 x1 hx => by
          rw [rd_upd ha.1 x0 (by omega)] at hx
          by_cases e : x = rd a i
          · exact ⟨i, hi0, by omega, e.symm⟩
          · rw [if_neg e] at hx
            obtain ⟨q, q0, q1, h⟩ := hV x x0 x1 hx
            exact ⟨q, q0, by omega, h⟩)⟩, (by omega), (Sub.cons rfl (Sub.cons rfl (Sub.cons rfl Sub.nil))), fun _ h => h⟩
    ·
      refine w_exit ?_
      refine w_seq ?_
      refine w_reg ?_
      refine wr_y rfl (y_move rfl) ?_
      refine wr_y rfl (y_assign rfl) ?_
      refine wr_y rfl (y_assign rfl) ?_
      refine wr_nil ?_
      refine w_retR (R1 := [⟨3, 1, (some ⟨g_1, 0, none⟩), a.length, a.length, ints .i64 D, false⟩]) (fun _ h => h.sel [0] (by decide) rfl) ?_
      refine ⟨_, _, rfl, rfl, ?_⟩
      exact ⟨_, _, _, rfl, rfl⟩

/-! whorl/whorlref16.Is -/
set_option maxRecDepth 100000 in
theorem is16_ct {w : World} {A_a : Option Addr} {n_a c_a : Nat} {a : List Int} (h_a : Rd w A_a n_a c_a 1 (ints .i64 a)) (hp : a.Perm (iota a.length)) (hN : a.length ≤ 1000000) :
    Ct Try.prog 26 #[.slice A_a n_a c_a] w.heap.size w [] (fun v R' => v = .bool true) := by
  obtain rfl := h_a.lenI
  refine fn1 Try.func26 rfl rfl rfl ?_
  have m_a := h_a.max
  refine w_seq ?_
  refine w_reg ?_
  refine wr_y rfl (y_assign rfl) ?_
  refine wr_nil ?_
  refine w_seq ?_
  refine w_reg ?_
  refine wr_y rfl (y_move rfl) ?_
  refine wr_a rfl (a_callF en40 rfl (Ct.fresh (fun w hw => inv16_ct ((h_a.c _) w hw) hp (by omega)))) ?_
  rintro _ _ ⟨_, rfl, A_1, c_2, V_3, rfl, rfl⟩
  refine wr_y rfl (y_move rfl) ?_
  refine wr_y rfl (y_extract rfl rfl) ?_
  refine wr_y rfl (y_extract rfl rfl) ?_
  refine wr_y rfl (y_assign rfl) ?_
  refine wr_y rfl (y_assign rfl) ?_
  refine wr_nil ?_
  refine w_seq ?_
  refine w_reg ?_
  refine wr_y rfl (y_move rfl) ?_
  refine wr_y rfl (y_assign rfl) ?_
  refine wr_nil ?_
  refine w_retR (R1 := []) (fun _ h => h.sel [] (by decide) rfl) ?_
  refine ⟨_, rfl, ?_⟩
  rfl

theorem fst10 : fstL [1, 0] = [] := by decide +kernel
theorem ind10 : indS [1, 0] 2 [] = [1, 0] := by decide +kernel
theorem swap_perm {D : List Int} {i k : Int} (i0 : 0 ≤ i) (hi : i < D.length) (k0 : 0 ≤ k) (hk : k < D.length) : (upd (upd D i (rd D k)) k (rd D i)).Perm D := by
  unfold upd
  rw [rd_getI i0 hi, rd_getI k0 hk]
  exact List.set_set_perm (by omega) (by omega)
theorem indS_lenP {s l : List Int} {k : Int} (hok : (0 ≤ k ∧ k ≤ 1048576) ∧ ∀ x ∈ s, 0 ≤ x ∧ x < k) (hp : l.Perm (fstL s)) : (indS s k l).length = s.length := indS_len hok.1.1 hok.2 hp
theorem ind_facts {s l : List Int} {k : Int} (hk : 0 ≤ k) (hs : ∀ x ∈ s, 0 ≤ x ∧ x < k) (hp : l.Perm (fstL s)) : (indS s k l).length = s.length ∧ (indS s k l).Perm (iota s.length) ∧ (∀ q : Int, 0 ≤ q → q + 1 < s.length → rd s (rd (indS s k l) q) ≤ rd s (rd (indS s k l) (q + 1))) ∧ (l.Pairwise (ordE s) → (indS s k l).Pairwise (ordE s)) := by
  refine ⟨indS_len hk hs hp, ?_⟩
  rcases Nat.eq_zero_or_pos s.length with h | h
  · have e : s = [] := List.eq_nil_of_length_eq_zero h
    subst e
    rw [indS_nil hp]
    exact ⟨.refl _, fun q h0 h1 => by simp at h1; omega, fun _ => .nil⟩
  · exact indS_ok hk hs hp h
theorem flt_step {b : List Int} {f : List Int} {i : Int} (h0 : 0 ≤ i) (hi : i < b.length) : ((b.take (i + 1).toNat).filter fun x => f.contains x) = ((b.take i.toNat).filter fun x => f.contains x) ++ if rd b i ∈ f then [rd b i] else [] := by
  rw [take_rd h0 hi, List.filter_append]
  congr 1
  by_cases h : rd b i ∈ f
  · rw [if_pos h, List.filter_cons_of_pos (by simpa using h)]; rfl
  · rw [if_neg h, List.filter_cons_of_neg (by simpa using h)]; rfl
theorem one_step {f : List Int} {x j : Int} (hn : f.Nodup) (j0 : 0 ≤ j) (hj : j < f.length) : (if x ∈ f.take (j + 1).toNat then [x] else []) = (if x ∈ f.take j.toNat then [x] else []) ++ if rd f j = x then [rd f j] else [] := by
  rw [take_rd j0 hj]
  have hno : rd f j ∉ f.take j.toNat := by
    intro h
    obtain ⟨q, hq, e⟩ := List.mem_iff_getElem.1 h
    rw [List.length_take] at hq
    have := rd_inj hn (i := (q : Int)) (j := j) (by omega) (by omega) j0 hj (by rw [rd_getI (by omega) (by omega), ← e, List.getElem_take]; congr 1)
    omega
  by_cases e : rd f j = x
  · subst e
    rw [if_pos (by simp), if_neg hno, if_pos rfl]
    rfl
  · rw [if_neg e, List.append_nil]
    have : x ∈ f.take j.toNat ++ [rd f j] ↔ x ∈ f.take j.toNat := by
      rw [List.mem_append, List.mem_singleton]
      exact ⟨fun h => h.resolve_right fun h => e h.symm, .inl⟩
    by_cases h : x ∈ f.take j.toNat
    · rw [if_pos h, if_pos (this.2 h)]
    · rw [if_neg h, if_neg fun h' => h (this.1 h')]
theorem flt_perm {s b : List Int} (hp : b.Perm (iota s.length)) : (b.filter fun x => (fstL s).contains x).Perm (fstL s) := by
  refine (hp.filter _).trans ?_
  unfold fstL
  refine .of_eq (List.filter_congr fun x hx => ?_)
  have h1 := @mem_fstL s x
  unfold fstL at h1
  rw [Bool.eq_iff_iff, List.contains_iff_mem, h1]
  exact ⟨fun h => h.2, fun h => ⟨mem_iota.1 hx, h⟩⟩
theorem not_more {s l : List Int} (h : l.length = (fstL s).length + 1) : ¬ l.Perm (fstL s) := fun hp => by have := hp.length_eq; omega
end Go.Proofs.Ytjgjjojecjeijaa
