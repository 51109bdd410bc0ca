/-
  Plain laws: words without end. Own work.
-/
import Derived.Test.YtdfcnalkdlifiaaQ1
namespace Go.Pure
open Go.Eng
/-- A word without end. -/
def om (u : List Int) (i : Nat) : Int := u.getD (i % u.length) 0
theorem om_rd (u : List Int) (k : Nat) : rd u ((k : Int) % u.length) = om u k := by
  unfold rd om
  rw [← Int.natCast_emod, Int.toNat_natCast]
theorem om_lt {u : List Int} {i : Nat} (h : i < u.length) : om u i = u.getD i 0 := by
  unfold om
  rw [Nat.mod_eq_of_lt h]
/-- A period of a row without end. -/
def Per (W : Nat → Int) (d : Nat) : Prop := ∀ i, W (i + d) = W i
theorem om_per (u : List Int) : Per (om u) u.length := by
  intro i
  unfold om
  rw [Nat.add_mod_right]
theorem Per.mul {W : Nat → Int} {d : Nat} (h : Per W d) : ∀ k, Per W (d * k)
  | 0 => fun i => by rw [Nat.mul_zero, Nat.add_zero]
  | k + 1 => fun i => by rw [Nat.mul_succ, ← Nat.add_assoc, h, h.mul k]
theorem Per.mod {W : Nat → Int} {d : Nat} (h : Per W d) (i : Nat) : W (i % d) = W i := by
  have := h.mul (i / d) (i % d)
  rw [Nat.mod_add_div] at this
  exact this.symm
theorem Per.gcd {W : Nat → Int} (a b : Nat) : Per W a → Per W b → Per W (Nat.gcd a b) := by
  induction a, b using Nat.gcd.induction with
  | H0 n => intro _ h; rw [Nat.gcd_zero_left]; exact h
  | H1 m n hm ih =>
    intro h1 h2
    rw [Nat.gcd_rec]
    refine ih ?_ h1
    intro i
    have e := h1.mul (n / m) (i + n % m)
    rw [Nat.add_assoc, Nat.mod_add_div] at e
    rw [← e]
    exact h2 i
/-- What agrees on as many letters as both periods has, agrees. -/
theorem agree {U V : Nat → Int} {p q : Nat} (hp : 0 < p) (hq : 0 < q) (hU : Per U p) (hV : Per V q) (h : ∀ i, i < p + q → U i = V i) : ∀ i, U i = V i := by
  intro i
  induction i using Nat.strongRecOn with
  | _ i ih =>
    by_cases hi : i < p + q
    · exact h i hi
    · have e1 : U i = U (i - p) := by have := hU (i - p); rw [Nat.sub_add_cancel (by omega)] at this; exact this
      have e2 : V (i - p) = V (i - p - q) := by have := hV (i - p - q); rw [Nat.sub_add_cancel (by omega)] at this; exact this
      have e3 : U (i - q) = U (i - p - q) := by have := hU (i - p - q); rw [show i - p - q + p = i - q by omega] at this; exact this
      have e4 : V i = V (i - q) := by have := hV (i - q); rw [Nat.sub_add_cancel (by omega)] at this; exact this
      rw [e1, ih (i - p) (by omega), e2, ← ih (i - p - q) (by omega), ← e3, ih (i - q) (by omega), ← e4]
/-- The first place, if any below N, at which two rows differ, tells. -/
def FD (U V : Nat → Int) (N : Nat) (c : Int) : Prop := (c = 0 ∧ ∀ i, i < N → U i = V i) ∨ ∃ k, k < N ∧ (∀ i, i < k → U i = V i) ∧ U k ≠ V k ∧ c = cmpI (U k) (V k)
theorem cmpI_zero {a b : Int} : cmpI a b = 0 ↔ a = b := by unfold cmpI; split <;> (try split) <;> omega
theorem FD.uniq {U V : Nat → Int} {N M : Nat} {c d : Int} (h : FD U V N c) (h' : FD U V M d) (hc : c = 0 → ∀ i, i < M → U i = V i) (hd : d = 0 → ∀ i, i < N → U i = V i) : c = d := by
  rcases h with ⟨rfl, h⟩ | ⟨k, hk, h, hn, e⟩
  · rcases h' with ⟨rfl, _⟩ | ⟨k', hk', _, hn', e'⟩
    · rfl
    · exact absurd (hc rfl k' hk') hn'
  · rcases h' with ⟨rfl, h'⟩ | ⟨k', hk', h', hn', e'⟩
    · exact absurd (hd rfl k hk) hn
    · have : k = k' := by
        by_cases h1 : k < k'
        · exact absurd (h' k h1) hn
        · by_cases h2 : k' < k
          · exact absurd (h k' h2) hn'
          · omega
      subst this
      rw [e, e']
theorem FD.step {U V : Nat → Int} {N : Nat} {c : Int} (h0 : U 0 = V 0) (h : FD (fun i => U (i + 1)) (fun i => V (i + 1)) N c) : FD U V (N + 1) c := by
  rcases h with ⟨rfl, h⟩ | ⟨k, hk, h, hn, e⟩
  · refine .inl ⟨rfl, fun i hi => ?_⟩
    cases i with
    | zero => exact h0
    | succ i => exact h i (by omega)
  · refine .inr ⟨k + 1, by omega, fun i hi => ?_, hn, e⟩
    cases i with
    | zero => exact h0
    | succ i => exact h i (by omega)
theorem cmpW_fd (u v : List Int) : ∀ (f k : Nat), FD (fun i => om u (i + k)) (fun i => om v (i + k)) f (cmpW u v f k)
  | 0, _ => .inl ⟨rfl, fun i hi => by omega⟩
  | f + 1, k => by
    by_cases h : om u k = om v k
    · rw [cmpW_next (by rw [om_rd, om_rd]; exact h)]
      have ih := cmpW_fd u v f (k + 1)
      refine FD.step (by simpa using h) ?_
      have e : ((k + 1 : Nat) : Int) = (k : Int) + 1 := by omega
      rw [← e]
      simpa [Nat.add_assoc, Nat.add_comm 1 k] using ih
    · refine .inr ⟨0, by omega, fun i hi => by omega, by simpa using h, ?_⟩
      rw [cmpW_hit (by omega) (by rw [om_rd, om_rd]; exact fun e => h (cmpI_zero.1 e)), om_rd, om_rd]
      simp
theorem cmpO_fd {u v : List Int} (hu : 0 < u.length) (hv : 0 < v.length) : FD (om u) (om v) (u.length + v.length) (cmpO u v) := by
  unfold cmpO
  rw [if_neg (by omega)]
  have := cmpW_fd u v (u.length + v.length) 0
  simpa using this
theorem cmpO_zero {u v : List Int} (hu : 0 < u.length) (hv : 0 < v.length) : cmpO u v = 0 ↔ ∀ i, om u i = om v i := by
  constructor
  · intro h
    have := cmpO_fd hu hv
    rw [h] at this
    rcases this with ⟨_, h⟩ | ⟨k, _, _, hn, e⟩
    · exact agree hu hv (om_per u) (om_per v) h
    · exact absurd (cmpI_zero.1 e.symm) hn
  · intro h
    rcases cmpO_fd hu hv with ⟨e, _⟩ | ⟨k, _, _, hn, _⟩
    · exact e
    · exact absurd (h k) hn
/-- Less, somewhere first. -/
def Lt (U V : Nat → Int) : Prop := ∃ k, (∀ i, i < k → U i = V i) ∧ U k < V k
theorem Lt.trans {U V W : Nat → Int} (h : Lt U V) (h' : Lt V W) : Lt U W := by
  obtain ⟨k, h, hk⟩ := h
  obtain ⟨m, h', hm⟩ := h'
  by_cases h1 : k < m
  · exact ⟨k, fun i hi => by rw [h i hi, h' i (by omega)], by rw [← h' k h1]; exact hk⟩
  · by_cases h2 : m < k
    · exact ⟨m, fun i hi => by rw [h i (by omega), h' i hi], by rw [h m h2]; exact hm⟩
    · have : k = m := by omega
      subst this
      exact ⟨k, fun i hi => by rw [h i hi, h' i hi], by omega⟩
theorem cmpO_neg {u v : List Int} (hu : 0 < u.length) (hv : 0 < v.length) : cmpO u v < 0 ↔ Lt (om u) (om v) := by
  constructor
  · intro h
    rcases cmpO_fd hu hv with ⟨e, _⟩ | ⟨k, _, hk, hn, e⟩
    · omega
    · refine ⟨k, hk, ?_⟩
      rw [e] at h
      unfold cmpI at h
      split at h
      · assumption
      · split at h <;> omega
  · rintro ⟨k, hk, hlt⟩
    rcases cmpO_fd hu hv with ⟨e, h⟩ | ⟨m, _, hm, hn, e⟩
    · have := agree hu hv (om_per u) (om_per v) h k
      omega
    · have : k = m := by
        by_cases h1 : k < m
        · have := hm k h1; omega
        · by_cases h2 : m < k
          · exact absurd (hk m h2) hn
          · omega
      subst this
      rw [e]
      unfold cmpI
      rw [if_pos hlt]
      decide
theorem cmpO_pos {u v : List Int} (hu : 0 < u.length) (hv : 0 < v.length) : 0 < cmpO u v ↔ Lt (om v) (om u) := by
  rw [← cmpO_neg hv hu, cmpO_anti u v]
  omega
theorem cmpO_nil {u v : List Int} (h : u.length = 0 ∨ v.length = 0) : cmpO u v = cmpI (min u.length 1) (min v.length 1) := by
  unfold cmpO
  rw [if_pos (by omega)]
/-- Not greater, through the middle one. -/
theorem cmpO_le (u v w : List Int) (h1 : cmpO u v ≤ 0) (h2 : cmpO v w ≤ 0) : cmpO u w ≤ 0 := by
  by_cases hu : u.length = 0
  · rw [cmpO_nil (.inl hu)]
    unfold cmpI
    split <;> (try split) <;> omega
  by_cases hv : v.length = 0
  · rw [cmpO_nil (.inr hv)] at h1
    unfold cmpI at h1
    rw [if_neg (by omega), if_pos (by omega)] at h1
    omega
  by_cases hw : w.length = 0
  · rw [cmpO_nil (.inr hw)] at h2
    unfold cmpI at h2
    rw [if_neg (by omega), if_pos (by omega)] at h2
    omega
  have pu : 0 < u.length := by omega
  have pv : 0 < v.length := by omega
  have pw : 0 < w.length := by omega
  by_cases e1 : cmpO u v = 0
  · have a := (cmpO_zero pu pv).1 e1
    by_cases e2 : cmpO v w = 0
    · have b := (cmpO_zero pv pw).1 e2
      have := (cmpO_zero pu pw).2 fun i => (a i).trans (b i)
      omega
    · obtain ⟨k, hk, hlt⟩ := (cmpO_neg pv pw).1 (by omega)
      have := (cmpO_neg pu pw).2 ⟨k, fun i hi => (a i).trans (hk i hi), by rw [a k]; exact hlt⟩
      omega
  · have a := (cmpO_neg pu pv).1 (by omega)
    by_cases e2 : cmpO v w = 0
    · have b := (cmpO_zero pv pw).1 e2
      obtain ⟨k, hk, hlt⟩ := a
      have := (cmpO_neg pu pw).2 ⟨k, fun i hi => (hk i hi).trans (b i), by rw [← b k]; exact hlt⟩
      omega
    · have := (cmpO_neg pu pw).2 (a.trans ((cmpO_neg pv pw).1 (by omega)))
      omega
theorem cmpO_trans (u v w : List Int) : (0 < cmpO u v ∨ 0 < cmpO v w ∨ cmpO u w ≤ 0) ∧ (cmpO u v < 0 ∨ cmpO v w < 0 ∨ 0 ≤ cmpO u w) ∧ (cmpO u v ≠ 0 ∨ cmpO v w = cmpO u w) := by
  have h1 := cmpO_le u v w
  have h2 := cmpO_le w v u
  have a1 := cmpO_anti u v
  have a2 := cmpO_anti v w
  have a3 := cmpO_anti u w
  have r1 := cmpO_range u v
  have r2 := cmpO_range v w
  have r3 := cmpO_range u w
  have h3 := cmpO_le v u w
  have h4 := cmpO_le w u v
  refine ⟨?_, ?_, ?_⟩
  · by_cases c1 : 0 < cmpO u v
    · exact .inl c1
    · by_cases c2 : 0 < cmpO v w
      · exact .inr (.inl c2)
      · exact .inr (.inr (h1 (by omega) (by omega)))
  · by_cases c1 : cmpO u v < 0
    · exact .inl c1
    · by_cases c2 : cmpO v w < 0
      · exact .inr (.inl c2)
      · have := h2 (by omega) (by omega)
        exact .inr (.inr (by omega))
  · by_cases c1 : cmpO u v = 0
    · right
      by_cases c2 : cmpO v w ≤ 0
      · have t1 := h1 (by omega) c2
        by_cases c3 : 0 ≤ cmpO v w
        · have := h2 (by omega) (by omega)
          omega
        · by_cases c4 : cmpO u w = 0
          · have := h4 (by omega) (by omega)
            omega
          · omega
      · have t2 := h2 (by omega) (by omega)
        by_cases c4 : cmpO u w = 0
        · have := h3 (by omega) (by omega)
          omega
        · omega
    · exact .inl c1
/-- Two lists of one length, as words. -/
theorem cmpL_fd : ∀ (s t : List Int), s.length = t.length → FD (fun i => s.getD i 0) (fun i => t.getD i 0) s.length (cmpL s t)
  | [], [], _ => .inl ⟨rfl, fun i hi => by simp at hi⟩
  | a :: s, b :: t, h => by
    by_cases e : a = b
    · subst e
      have : cmpL (a :: s) (a :: t) = cmpL s t := by rw [cmpL, if_neg (by omega), if_neg (by omega)]
      rw [this]
      exact FD.step rfl (by simpa using cmpL_fd s t (by simpa using h))
    · refine .inr ⟨0, by simp, fun i hi => by omega, by simpa using e, ?_⟩
      simp only [List.getD_cons_zero]
      unfold cmpL cmpI
      split
      · rfl
      · rw [if_pos (by omega), if_pos (by omega)]
  | [], _ :: _, h => by simp at h
  | _ :: _, [], h => by simp at h
theorem rep_getD (w : List Int) : ∀ (k i : Nat), i < k * w.length → (rep w k).getD i 0 = om w i
  | 0, i, h => by omega
  | k + 1, i, h => by
    have e : ((k + 1 : Nat) : Int) = 1 + (k : Int) := by omega
    have e2 : rep w ((k + 1 : Nat) : Int) = w ++ rep w k := by
      unfold rep
      rw [show ((k + 1 : Nat) : Int).toNat = k + 1 by omega, List.replicate_succ]
      simp
    rw [e2]
    by_cases hi : i < w.length
    · rw [om_lt hi, List.getD_eq_getElem?_getD, List.getD_eq_getElem?_getD, List.getElem?_append_left hi]
    · rw [List.getD_eq_getElem?_getD, List.getElem?_append_right (by omega), ← List.getD_eq_getElem?_getD, rep_getD w k (i - w.length) (by rw [Nat.add_mul] at h; omega)]
      have := om_per w (i - w.length)
      rw [Nat.sub_add_cancel (by omega)] at this
      exact this.symm
theorem cmpO_long {u v : List Int} (hu : 0 < u.length) (hv : 0 < v.length) : cmpO u v = cmpL (rep u (2 * v.length)) (rep v (2 * u.length)) := by
  have l1 : (rep u (2 * v.length)).length = 2 * v.length * u.length := by rw [rep_length]; congr 1
  have l2 : (rep v (2 * u.length)).length = 2 * u.length * v.length := by rw [rep_length]; congr 1
  have l3 : 2 * u.length * v.length = 2 * v.length * u.length := by rw [Nat.mul_assoc, Nat.mul_assoc, Nat.mul_comm u.length]
  have h := cmpL_fd (rep u (2 * v.length)) (rep v (2 * u.length)) (by rw [l1, l2, l3])
  have g1 : ∀ i, i < 2 * v.length * u.length → (rep u (2 * v.length)).getD i 0 = om u i := fun i hi => by
    have := rep_getD u (2 * v.length) i hi
    rwa [show ((2 * v.length : Nat) : Int) = 2 * (v.length : Int) by omega] at this
  have g2 : ∀ i, i < 2 * v.length * u.length → (rep v (2 * u.length)).getD i 0 = om v i := fun i hi => by
    have := rep_getD v (2 * u.length) i (by rw [l3]; exact hi)
    rwa [show ((2 * u.length : Nat) : Int) = 2 * (u.length : Int) by omega] at this
  have hn : u.length + v.length ≤ 2 * v.length * u.length := by
    have a : v.length * 1 ≤ v.length * u.length := Nat.mul_le_mul_left _ hu
    have b : 1 * u.length ≤ v.length * u.length := Nat.mul_le_mul_right _ hv
    rw [Nat.mul_assoc]
    omega
  have h' : FD (om u) (om v) (2 * v.length * u.length) (cmpL (rep u (2 * v.length)) (rep v (2 * u.length))) := by
    rw [l1] at h
    rcases h with ⟨e, h⟩ | ⟨k, hk, h, hd, e⟩
    · exact .inl ⟨e, fun i hi => by rw [← g1 i hi, ← g2 i hi]; exact h i hi⟩
    · refine .inr ⟨k, hk, fun i hi => by rw [← g1 i (by omega), ← g2 i (by omega)]; exact h i hi, ?_, ?_⟩
      · rw [← g1 k hk, ← g2 k hk]; exact hd
      · rw [← g1 k hk, ← g2 k hk]; exact e
  refine (cmpO_fd hu hv).uniq h' (fun e i _ => (cmpO_zero hu hv).1 e i) fun e i hi => ?_
  rcases h' with ⟨_, h⟩ | ⟨k, hk, _, hd, e'⟩
  · exact h i (by omega)
  · rw [e] at e'
    exact absurd (cmpI_zero.1 e'.symm) hd
end Go.Pure
