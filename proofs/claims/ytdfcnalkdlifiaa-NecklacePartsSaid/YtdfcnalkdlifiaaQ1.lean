/-
  Plain laws: words compared. Own work.
-/
import Derived.Test.YtdfcnalkdlifiaaE7
namespace Go.Pure
open Go.Eng
/-- Go's cmp.Compare on numbers. -/
def cmpI (a b : Int) : Int := if a < b then -1 else if b < a then 1 else 0
/-- Two lists, as words. -/
def cmpL : List Int → List Int → Int
  | [], [] => 0
  | [], _ :: _ => -1
  | _ :: _, [] => 1
  | a :: s, b :: t => if a < b then -1 else if b < a then 1 else cmpL s t
theorem rd_drop_cons {l : List Int} {i : Int} (h0 : 0 ≤ i) (h : i < l.length) : l.drop i.toNat = rd l i :: l.drop (i + 1).toNat := by
  have hl : i.toNat < l.length := by omega
  have e : (i + 1).toNat = i.toNat + 1 := by omega
  rw [e, List.drop_eq_getElem_cons hl]
  simp [rd, List.getD_eq_getElem?_getD, List.getElem?_eq_getElem hl]
theorem cmpL_step {u v : List Int} {i : Int} (h0 : 0 ≤ i) (hu : i < u.length) (hv : i < v.length) :
    cmpL (u.drop i.toNat) (v.drop i.toNat) = if rd u i < rd v i then -1 else if rd v i < rd u i then 1 else cmpL (u.drop (i + 1).toNat) (v.drop (i + 1).toNat) := by
  rw [rd_drop_cons h0 hu, rd_drop_cons h0 hv]
  rfl
theorem cmpL_end {u v : List Int} {i : Int} (h0 : 0 ≤ i) (hu : i ≤ u.length) (hv : i ≤ v.length) (h : ¬ (i < u.length ∧ i < v.length)) :
    cmpL (u.drop i.toNat) (v.drop i.toNat) = if (u.length : Int) < v.length then -1 else if (v.length : Int) < u.length then 1 else 0 := by
  have nil : ∀ (l : List Int) (j : Int), (l.length : Int) ≤ j → l.drop j.toNat = [] := fun l j h => List.drop_of_length_le (by omega)
  by_cases h1 : i < u.length
  · have h2 : i = v.length := by omega
    rw [rd_drop_cons h0 h1, nil v i (by omega), if_neg (by omega), if_pos (by omega)]
    rfl
  · by_cases h2 : i < v.length
    · rw [rd_drop_cons h0 h2, nil u i (by omega), if_pos (by omega)]
      rfl
    · rw [nil u i (by omega), nil v i (by omega), if_neg (by omega), if_neg (by omega)]
      rfl
/-- Two words without end, by so many letters from the k-th on. -/
def cmpW (u v : List Int) : Nat → Int → Int
  | 0, _ => 0
  | f + 1, k => if rd u (k % u.length) < rd v (k % v.length) then -1 else if rd v (k % v.length) < rd u (k % u.length) then 1 else cmpW u v f (k + 1)
/-- omega.Compare. -/
def cmpO (u v : List Int) : Int :=
  if (u.length : Int) = 0 ∨ (v.length : Int) = 0 then cmpI (min u.length 1) (min v.length 1) else cmpW u v (u.length + v.length) 0
theorem cmpW_anti (u v : List Int) : ∀ f k, cmpW v u f k = -cmpW u v f k
  | 0, _ => rfl
  | f + 1, k => by
    unfold cmpW
    rw [cmpW_anti u v f (k + 1)]
    by_cases h1 : rd v (k % v.length) < rd u (k % u.length)
    · rw [if_pos h1, if_neg (by omega), if_pos h1]
    · rw [if_neg h1]
      by_cases h2 : rd u (k % u.length) < rd v (k % v.length)
      · rw [if_pos h2, if_pos h2]; rfl
      · rw [if_neg h2, if_neg h2, if_neg h1]
theorem cmpI_anti (a b : Int) : cmpI b a = -cmpI a b := by unfold cmpI; split <;> split <;> omega
theorem cmpO_anti (u v : List Int) : cmpO v u = -cmpO u v := by
  unfold cmpO
  by_cases h : (u.length : Int) = 0 ∨ (v.length : Int) = 0
  · rw [if_pos h, if_pos (by omega), cmpI_anti]
  · rw [if_neg h, if_neg (by omega), Nat.add_comm, cmpW_anti]
theorem cmpW_next {u v : List Int} {f : Nat} {k : Int} (h : rd u (k % u.length) = rd v (k % v.length)) : cmpW u v (f + 1) k = cmpW u v f (k + 1) := by
  rw [cmpW, if_neg (by omega), if_neg (by omega)]
theorem cmpW_hit {u v : List Int} {f : Nat} {k : Int} (hf : 0 < f) (h : cmpI (rd u (k % u.length)) (rd v (k % v.length)) ≠ 0) : cmpW u v f k = cmpI (rd u (k % u.length)) (rd v (k % v.length)) := by
  obtain ⟨f, rfl⟩ : ∃ g, f = g + 1 := ⟨f - 1, by omega⟩
  unfold cmpW cmpI at *
  split
  · rfl
  · split
    · rfl
    · rename_i h1 h2
      rw [if_neg h1, if_neg h2] at h
      exact absurd rfl h
theorem cmpW_go {u v : List Int} {f : Nat} {k : Int} (hf : 0 < f) (h : cmpI (rd u (k % u.length)) (rd v (k % v.length)) = 0) : cmpW u v f k = cmpW u v (f - 1) (k + 1) := by
  obtain ⟨f, rfl⟩ : ∃ g, f = g + 1 := ⟨f - 1, by omega⟩
  refine cmpW_next ?_
  unfold cmpI at h
  split at h
  · omega
  · split at h <;> omega
theorem cmpI_range (a b : Int) : -1 ≤ cmpI a b ∧ cmpI a b ≤ 1 := by unfold cmpI; split <;> (try split) <;> omega
theorem cmpW_range (u v : List Int) : ∀ f k, -1 ≤ cmpW u v f k ∧ cmpW u v f k ≤ 1
  | 0, _ => by unfold cmpW; omega
  | f + 1, k => by
    unfold cmpW
    have := cmpW_range u v f (k + 1)
    split <;> (try split) <;> omega
theorem cmpO_range (u v : List Int) : -1 ≤ cmpO u v ∧ cmpO u v ≤ 1 := by
  unfold cmpO
  split
  · exact cmpI_range _ _
  · exact cmpW_range _ _ _ _
/-- A word so many times. -/
def rep (w : List Int) (k : Int) : List Int := (List.replicate k.toNat w).flatten
theorem rep_zero (w : List Int) : rep w 0 = [] := rfl
theorem rep_succ {w : List Int} {k : Int} (h : 0 ≤ k) : rep w (k + 1) = rep w k ++ w := by
  unfold rep
  have e : (k + 1).toNat = k.toNat + 1 := by omega
  rw [e, List.replicate_succ']
  simp
theorem rep_length (w : List Int) (k : Int) : (rep w k).length = k.toNat * w.length := by
  unfold rep
  rw [List.length_flatten, List.map_replicate, List.sum_replicate_nat]
theorem rep_bytes {w : List Int} (h : ByteL w) (k : Int) : ByteL (rep w k) := by
  intro x hx
  unfold rep at hx
  obtain ⟨l, hl, hx⟩ := List.mem_flatten.1 hx
  rw [List.mem_replicate] at hl
  exact h x (hl.2 ▸ hx)
/-- What a word's first letter tells. -/
theorem cmpL_first (u v : List Int) (h : (u.length : Int) = 0 ∨ (v.length : Int) = 0) : cmpL (u.take (min (u.length : Int) 1).toNat) (v.take (min (v.length : Int) 1).toNat) = cmpI (min u.length 1) (min v.length 1) := by
  cases u with
  | nil => cases v with
    | nil => rfl
    | cons b t =>
      have e : (min (((b :: t).length : Nat) : Int) 1) = 1 := by simp only [List.length_cons]; omega
      rw [e]; rfl
  | cons a s => cases v with
    | nil =>
      have e : (min (((a :: s).length : Nat) : Int) 1) = 1 := by simp only [List.length_cons]; omega
      rw [e]; rfl
    | cons b t => simp only [List.length_cons] at h; omega
end Go.Pure
