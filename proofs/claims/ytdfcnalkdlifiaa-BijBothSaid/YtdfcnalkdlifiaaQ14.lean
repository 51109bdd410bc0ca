/-
  Plain laws: endings of numbers, their order and their ranks. Own work.
-/
import Derived.Test.YtdfcnalkdlifiaaQ8
import Derived.Test.YtdfcnalkdlifiaaQ12
namespace Go.Pure
open Go Go.Eng
theorem ltH_succ {M : Nat} {U V : Nat → Int} : LtH (M + 1) U V ↔ U 0 < V 0 ∨ U 0 = V 0 ∧ LtH M (fun i => U (i + 1)) (fun i => V (i + 1)) := by
  constructor
  · rintro ⟨k, hk, h1, h2⟩
    cases k with
    | zero => exact .inl h2
    | succ k => exact .inr ⟨h1 0 (by omega), k, by omega, fun i hi => h1 (i + 1) (by omega), h2⟩
  · rintro (h | ⟨e, k, hk, h1, h2⟩)
    · exact ⟨0, by omega, fun i hi => by omega, h⟩
    · refine ⟨k + 1, by omega, fun i hi => ?_, h2⟩
      cases i with
      | zero => exact e
      | succ i => exact h1 i (by omega)
/-- A row of numbers, with nought behind its end. -/
def pad (m : Int) (l : List Int) (d : Nat) : Int := if d < l.length then lt l d - m + 1 else 0
theorem cmpL_pad (m : Int) : ∀ (a b : List Int) (N : Nat), a.length ≤ N → b.length ≤ N → (∀ x ∈ a, m ≤ x) → (∀ x ∈ b, m ≤ x) → (cmpL a b < 0 ↔ LtH N (pad m a) (pad m b))
  | [], [], N, _, _, _, _ => by
    simp only [cmpL]
    refine ⟨fun h => by omega, ?_⟩
    rintro ⟨k, _, _, h⟩
    simp [pad] at h
  | [], b :: v, N, _, hb, _, mb => by
    simp only [cmpL]
    have := mb b (by simp)
    refine ⟨fun _ => ⟨0, by simp only [List.length_cons] at hb; omega, fun i hi => by omega, ?_⟩, fun _ => by omega⟩
    have e1 : pad m [] 0 = 0 := rfl
    have e2 : pad m (b :: v) 0 = b - m + 1 := by unfold pad; rw [if_pos (by simp)]; rfl
    rw [e1, e2]
    omega
  | a :: u, [], N, _, _, ma, _ => by
    simp only [cmpL]
    refine ⟨fun h => by omega, ?_⟩
    rintro ⟨k, _, _, h⟩
    exfalso
    have e1 : pad m [] k = 0 := by unfold pad; rw [if_neg (by simp)]
    rw [e1] at h
    unfold pad at h
    split at h
    · rename_i hk
      have : m ≤ lt (a :: u) k := ma _ (by
        unfold lt
        rw [List.getD_eq_getElem?_getD, List.getElem?_eq_getElem hk]
        exact List.getElem_mem _)
      omega
    · omega
  | a :: u, b :: v, 0, h, _, _, _ => by simp at h
  | a :: u, b :: v, N + 1, ha, hb, ma, mb => by
    have ih := cmpL_pad m u v N (by simpa using ha) (by simpa using hb) (fun x hx => ma x (List.mem_cons_of_mem _ hx)) (fun x hx => mb x (List.mem_cons_of_mem _ hx))
    have e0 : ∀ (x : Int) (xs : List Int), pad m (x :: xs) 0 = x - m + 1 := fun x xs => by unfold pad; rw [if_pos (by simp)]; rfl
    have e1 : ∀ (x : Int) (xs : List Int), (fun i => pad m (x :: xs) (i + 1)) = pad m xs := fun x xs => by
      funext i
      unfold pad
      by_cases h : i < xs.length
      · rw [if_pos (by simpa using h), if_pos h]; rfl
      · rw [if_neg (by simpa using h), if_neg h]
    rw [cmpL, ltH_succ, e0, e0, e1, e1]
    rcases Int.lt_trichotomy a b with c | c | c
    · rw [if_pos c]
      exact ⟨fun _ => .inl (by omega), fun _ => by omega⟩
    · subst c
      rw [if_neg (by omega), if_neg (by omega), ih]
      exact ⟨fun h => .inr ⟨rfl, h⟩, fun h => h.elim (fun h => by omega) fun h => h.2⟩
    · rw [if_neg (by omega), if_pos c]
      exact ⟨fun h => by omega, fun h => h.elim (fun h => by omega) fun h => by omega⟩
/-- A number that is no more than any. -/
def lo (s : List Int) : Int := s.foldr min 0
theorem lo_le : ∀ {s : List Int} {x : Int}, x ∈ s → lo s ≤ x
  | a :: s, x, h => by
    unfold lo
    rw [List.foldr_cons]
    rcases List.mem_cons.1 h with rfl | h
    · exact Int.min_le_left _ _
    · have := lo_le h
      unfold lo at this
      omega
/-- An ending, with nought behind its end. -/
def eu (s : List Int) (i d : Nat) : Int := if i + d < s.length then lt s (i + d) - lo s + 1 else 0
theorem lt_mem {s : List Int} {i : Nat} (h : i < s.length) : lt s i ∈ s := by
  unfold lt
  rw [List.getD_eq_getElem?_getD, List.getElem?_eq_getElem h]
  exact List.getElem_mem _
theorem eu_pos {s : List Int} {i d : Nat} (h : i + d < s.length) : 0 < eu s i d := by
  have := lo_le (lt_mem h)
  unfold eu
  rw [if_pos h]
  omega
theorem eu_zero {s : List Int} {i d : Nat} (h : s.length ≤ i + d) : eu s i d = 0 := by unfold eu; rw [if_neg (by omega)]
theorem eu_add (s : List Int) (i b d : Nat) : eu s (i + b) d = eu s i (b + d) := by unfold eu; rw [Nat.add_assoc]
/-- The first h numbers of an ending. -/
def cutE (s : List Int) (i h : Nat) : List Int := (s.drop i).take h
theorem cutE_pad {s : List Int} {i h d : Nat} (hd : d < h) : pad (lo s) (cutE s i h) d = eu s i d := by
  unfold pad eu cutE
  rw [List.length_take, List.length_drop]
  by_cases c : i + d < s.length
  · rw [if_pos (by omega), if_pos c, lt_take hd, lt_drop]
  · rw [if_neg (by omega), if_neg c]
theorem ltH_congr {H : Nat} {U U' V V' : Nat → Int} (h1 : ∀ i, i < H → U i = U' i) (h2 : ∀ i, i < H → V i = V' i) : LtH H U V ↔ LtH H U' V' := by
  constructor
  · rintro ⟨k, hk, a, b⟩
    exact ⟨k, hk, fun i hi => by rw [← h1 i (by omega), ← h2 i (by omega)]; exact a i hi, by rw [← h1 k hk, ← h2 k hk]; exact b⟩
  · rintro ⟨k, hk, a, b⟩
    exact ⟨k, hk, fun i hi => by rw [h1 i (by omega), h2 i (by omega)]; exact a i hi, by rw [h1 k hk, h2 k hk]; exact b⟩
theorem cut_lt (s : List Int) (i k h : Nat) : cmpL (cutE s i h) (cutE s k h) < 0 ↔ LtH h (eu s i) (eu s k) := by
  have hm : ∀ j, ∀ x ∈ cutE s j h, lo s ≤ x := fun j x hx => lo_le (List.mem_of_mem_drop (List.mem_of_mem_take hx))
  rw [cmpL_pad (lo s) _ _ h (by unfold cutE; rw [List.length_take]; omega) (by unfold cutE; rw [List.length_take]; omega) (hm i) (hm k)]
  exact ltH_congr (fun d hd => cutE_pad hd) fun d hd => cutE_pad hd
/-- By as many numbers more: what comes ahead decides; else what comes behind. -/
theorem lt_join {n b : Nat} {U V : Nat → Int} (hb : b ≤ n) : LtH (n + b) U V ↔ LtH n U V ∨ EqH n U V ∧ LtH n (fun i => U (b + i)) (fun i => V (b + i)) := by
  constructor
  · rintro ⟨k, hk, h1, h2⟩
    rcases Nat.lt_or_ge k n with a | a
    · exact .inl ⟨k, a, h1, h2⟩
    · refine .inr ⟨fun i hi => h1 i (by omega), k - b, by omega, fun i hi => h1 (b + i) (by omega), ?_⟩
      show U (b + (k - b)) < V (b + (k - b))
      rw [show b + (k - b) = k by omega]; exact h2
  · rintro (h | ⟨e, k, hk, h1, h2⟩)
    · exact h.mono (by omega)
    · refine ⟨b + k, by omega, fun i hi => ?_, h2⟩
      rcases Nat.lt_or_ge i n with a | a
      · exact e i a
      · have := h1 (i - b) (by omega)
        simp only at this
        rwa [show b + (i - b) = i by omega] at this
theorem eq_join {n b : Nat} {U V : Nat → Int} (hb : b ≤ n) : EqH (n + b) U V ↔ EqH n U V ∧ EqH n (fun i => U (b + i)) (fun i => V (b + i)) := by
  constructor
  · exact fun e => ⟨fun i hi => e i (by omega), fun i hi => e (b + i) (by omega)⟩
  · rintro ⟨e, f⟩ i hi
    rcases Nat.lt_or_ge i n with a | a
    · exact e i a
    · have := f (i - b) (by omega)
      simp only at this
      rwa [show b + (i - b) = i by omega] at this
/-- How many of the places have an ending that begins with less. -/
def rkS (s : List Int) (h i : Nat) : Nat := (List.range s.length).countP fun k => decide (cmpL (cutE s k h) (cutE s i h) < 0)
theorem countP_strict {α : Type} {p q : α → Bool} : ∀ {l : List α}, (∀ x ∈ l, p x = true → q x = true) → (∃ x ∈ l, p x = false ∧ q x = true) → l.countP p < l.countP q
  | [], _, h => by obtain ⟨x, hx, _⟩ := h; cases hx
  | a :: l, h, hx => by
    have hl : l.countP p ≤ l.countP q := List.countP_mono_left fun x hx => h x (List.mem_cons_of_mem _ hx)
    obtain ⟨x, hm, h1, h2⟩ := hx
    rw [List.countP_cons, List.countP_cons]
    rcases List.mem_cons.1 hm with rfl | hm
    · rw [h1, h2]; simp; omega
    · have ih := countP_strict (fun y hy => h y (List.mem_cons_of_mem _ hy)) ⟨x, hm, h1, h2⟩
      have ha := h a (by simp)
      cases hp : p a with
      | false => cases q a <;> simp <;> omega
      | true => rw [ha hp]; simp; omega
theorem rk_lt {s : List Int} {h i k : Nat} (hi : i < s.length) : rkS s h i < rkS s h k ↔ LtH h (eu s i) (eu s k) := by
  constructor
  · intro hr
    rcases tri h (eu s i) (eu s k) with a | a | a
    · exact a
    · exfalso
      have : rkS s h k ≤ rkS s h i := List.countP_mono_left fun x _ hx => by
        rw [decide_eq_true_iff, cut_lt] at hx ⊢
        exact hx.eq_right a.symm
      omega
    · exfalso
      have : rkS s h k ≤ rkS s h i := List.countP_mono_left fun x _ hx => by
        rw [decide_eq_true_iff, cut_lt] at hx ⊢
        exact hx.trans a
      omega
  · intro hl
    refine countP_strict (fun x _ hx => ?_) ⟨i, List.mem_range.2 hi, ?_, ?_⟩
    · rw [decide_eq_true_iff, cut_lt] at hx ⊢
      exact hx.trans hl
    · rw [decide_eq_false_iff_not, cut_lt]
      exact fun h => h.asymm h
    · rw [decide_eq_true_iff, cut_lt]
      exact hl
theorem rk_eq {s : List Int} {h i k : Nat} (hi : i < s.length) (hk : k < s.length) : rkS s h i = rkS s h k ↔ EqH h (eu s i) (eu s k) := by
  constructor
  · intro he
    rcases tri h (eu s i) (eu s k) with a | a | a
    · have := (rk_lt hi).2 a; omega
    · exact a
    · have := (rk_lt hk).2 a; omega
  · intro he
    rcases Nat.lt_trichotomy (rkS s h i) (rkS s h k) with a | a | a
    · exact absurd he ((rk_lt hi).1 a).not_eq
    · exact a
    · exact absurd he.symm ((rk_lt hk).1 a).not_eq
/-- The rank so many places on, and one; nought behind the end. -/
def rkOn (s : List Int) (n i : Nat) : Nat := if i < s.length then rkS s n i + 1 else 0
theorem rkOn_lt {s : List Int} {n i k : Nat} (hn : 0 < n) : rkOn s n i < rkOn s n k ↔ LtH n (eu s i) (eu s k) := by
  unfold rkOn
  by_cases hi : i < s.length
  · by_cases hk : k < s.length
    · rw [if_pos hi, if_pos hk, ← rk_lt hi]; omega
    · rw [if_pos hi, if_neg hk]
      refine ⟨fun h => by omega, ?_⟩
      rintro ⟨d, _, _, h2⟩
      rw [eu_zero (s := s) (i := k) (by omega)] at h2
      rcases Nat.lt_or_ge (i + d) s.length with a | a
      · have := eu_pos a; omega
      · rw [eu_zero a] at h2; omega
  · by_cases hk : k < s.length
    · rw [if_neg hi, if_pos hk]
      refine ⟨fun _ => ⟨0, hn, fun d hd => by omega, ?_⟩, fun _ => by omega⟩
      rw [eu_zero (by omega)]
      exact eu_pos (by omega)
    · rw [if_neg hi, if_neg hk]
      refine ⟨fun h => by omega, ?_⟩
      rintro ⟨d, _, _, h2⟩
      rw [eu_zero (s := s) (i := k) (by omega), eu_zero (by omega)] at h2
      omega
theorem rkOn_eq {s : List Int} {n i k : Nat} (hn : 0 < n) : rkOn s n i = rkOn s n k ↔ EqH n (eu s i) (eu s k) := by
  constructor
  · intro he
    rcases tri n (eu s i) (eu s k) with a | a | a
    · have := (rkOn_lt hn).2 a; omega
    · exact a
    · have := (rkOn_lt hn).2 a; omega
  · intro he
    rcases Nat.lt_trichotomy (rkOn s n i) (rkOn s n k) with a | a | a
    · exact absurd he ((rkOn_lt hn).1 a).not_eq
    · exact a
    · exact absurd he.symm ((rkOn_lt hn).1 a).not_eq
/-- The two keys are the ranks by so many more. -/
theorem rk_join_lt {s : List Int} {n b i k : Nat} (hn : 0 < n) (hb : b ≤ n) (hi : i < s.length) (hk : k < s.length) : rkS s (n + b) i < rkS s (n + b) k ↔ rkS s n i < rkS s n k ∨ rkS s n i = rkS s n k ∧ rkOn s n (i + b) < rkOn s n (k + b) := by
  rw [rk_lt hi, lt_join hb, rk_lt hi, rk_eq hi hk, rkOn_lt hn]
  have e : ∀ j, eu s (j + b) = fun d => eu s j (b + d) := fun j => funext fun d => eu_add s j b d
  rw [e, e]
theorem rk_join_eq {s : List Int} {n b i k : Nat} (hn : 0 < n) (hb : b ≤ n) (hi : i < s.length) (hk : k < s.length) : rkS s (n + b) i = rkS s (n + b) k ↔ rkS s n i = rkS s n k ∧ rkOn s n (i + b) = rkOn s n (k + b) := by
  rw [rk_eq hi hk, eq_join hb, rk_eq hi hk, rkOn_eq hn]
  have e : ∀ j, eu s (j + b) = fun d => eu s j (b + d) := fun j => funext fun d => eu_add s j b d
  rw [e, e]
/-- In a row in order a new class begins: so many are less. -/
theorem rk_new {s : List Int} {h i : Nat} {o : List Nat} (hp : o.Perm (List.range s.length)) (hs : o.Pairwise fun x y => rkS s h x ≤ rkS s h y) (hi : i < o.length) (hnew : ∀ (hz : 0 < i), rkS s h (o[i - 1]'(by omega)) ≠ rkS s h o[i]) : rkS s h o[i] = i := by
  have hm : ∀ x ∈ o, x < s.length := fun x hx => List.mem_range.1 (hp.subset hx)
  have e : rkS s h o[i] = o.countP fun k => decide (rkS s h k < rkS s h o[i]) := by
    have e1 : rkS s h o[i] = o.countP fun k => decide (cmpL (cutE s k h) (cutE s o[i] h) < 0) := by
      unfold rkS
      rw [← hp.countP_eq]
    rw [e1]
    refine List.countP_congr fun x hx => ?_
    rw [decide_eq_true_iff, decide_eq_true_iff, cut_lt, ← rk_lt (hm x hx), ← e1]
  rw [e]
  have hsplit : o = o.take i ++ o.drop i := (List.take_append_drop i o).symm
  have h1 : (o.take i).countP (fun k => decide (rkS s h k < rkS s h o[i])) = i := by
    have : (o.take i).length = i := by rw [List.length_take]; omega
    conv => rhs; rw [← this]
    rw [List.countP_eq_length]
    intro x hx
    rw [decide_eq_true_iff]
    obtain ⟨j, hj, rfl⟩ := List.mem_iff_getElem.1 hx
    rw [List.length_take] at hj
    rw [List.getElem_take]
    have hz : 0 < i := by omega
    have hprev := hnew hz
    have hle : rkS s h (o[i - 1]'(by omega)) ≤ rkS s h o[i] := List.pairwise_iff_getElem.1 hs (i - 1) i (by omega) hi (by omega)
    rcases Nat.lt_or_ge j (i - 1) with a | a
    · have := List.pairwise_iff_getElem.1 hs j (i - 1) (by omega) (by omega) a
      omega
    · have : j = i - 1 := by omega
      subst this
      omega
  have h2 : (o.drop i).countP (fun k => decide (rkS s h k < rkS s h o[i])) = 0 := by
    rw [List.countP_eq_zero]
    intro x hx
    rw [decide_eq_true_iff]
    obtain ⟨j, hj, rfl⟩ := List.mem_iff_getElem.1 hx
    rw [List.length_drop] at hj
    rw [List.getElem_drop]
    rcases Nat.eq_zero_or_pos j with z | z
    · subst z; simp
    · have := List.pairwise_iff_getElem.1 hs i (i + j) hi (by omega) (by omega)
      omega
  have h3 : (o.take i ++ o.drop i).countP (fun k => decide (rkS s h k < rkS s h o[i])) = i := by rw [List.countP_append, h1, h2, Nat.add_zero]
  rwa [List.take_append_drop] at h3
end Go.Pure
