/-
  Plain laws: a rotation put into its place. Own work.
-/
import Derived.Test.YtdfcnalkdlifiaaQ9
namespace Go.Pure
open Go Go.Eng
theorem Lt.of_H {H : Nat} {U V : Nat → Int} (h : LtH H U V) : Lt U V := by
  obtain ⟨k, _, r⟩ := h
  exact ⟨k, r⟩
theorem lt_tri (U V : Nat → Int) : Lt U V ∨ (∀ i, U i = V i) ∨ Lt V U := by
  by_cases h : ∀ i, U i = V i
  · exact .inr (.inl h)
  · obtain ⟨k, hk⟩ := Classical.not_forall.1 h
    rcases tri (k + 1) U V with a | a | a
    · exact .inl (Lt.of_H a)
    · exact absurd (a k (by omega)) hk
    · exact .inr (.inr (Lt.of_H a))
theorem Lt.asymm {U V : Nat → Int} (h : Lt U V) : ¬ Lt V U := by
  obtain ⟨k, h1, hl⟩ := h
  rintro ⟨m, h2, hl'⟩
  by_cases a : k < m
  · have := h2 k a; omega
  · by_cases b : m < k
    · have := h1 m b; omega
    · have : k = m := by omega
      subst this; omega
theorem Lt.not_eq {U V : Nat → Int} (h : Lt U V) : ¬ ∀ i, U i = V i := fun e => by
  obtain ⟨k, _, hl⟩ := h
  have := e k
  omega
theorem ordO_of_not {ws : List (List Int)} {t u : Int × Int} (h : ¬ Lt (tw ws t) (tw ws u)) (hi : ltI u t) : ordO ws u t := by
  rcases lt_tri (tw ws u) (tw ws t) with a | a | a
  · exact .inl a
  · exact .inr ⟨a, hi⟩
  · exact absurd a h
theorem ordO_asymm {ws : List (List Int)} (t u : Int × Int) (h : ordO ws t u) : ¬ ordO ws u t := by
  rcases h with h | ⟨e, h⟩
  · rintro (g | ⟨e, g⟩)
    · exact h.asymm g
    · exact h.not_eq fun i => (e i).symm
  · rintro (g | ⟨e', g⟩)
    · exact g.not_eq fun i => (e i).symm
    · unfold ltI at h g; omega
theorem ordO_trans {ws : List (List Int)} {t u v : Int × Int} (h : ordO ws t u) (g : ordO ws u v) : ordO ws t v := by
  rcases h with ⟨k, h1, hl⟩ | ⟨e, h⟩
  · rcases g with g | ⟨e', _⟩
    · exact .inl (Lt.trans ⟨k, h1, hl⟩ g)
    · exact .inl ⟨k, fun i hi => (h1 i hi).trans (e' i), by rw [← e' k]; exact hl⟩
  · rcases g with ⟨k, h1, hl⟩ | ⟨e', g⟩
    · exact .inl ⟨k, fun i hi => (e i).trans (h1 i hi), by rw [e k]; exact hl⟩
    · exact .inr ⟨fun i => (e i).trans (e' i), by unfold ltI at *; omega⟩
/-- A new one, put between those ahead of it and those behind. -/
theorem ins_sorted {ws : List (List Int)} {l : List (Int × Int)} {x : Int × Int} {j : Nat} (hp : l.Pairwise (ordO ws)) (h1 : ∀ y ∈ l.take j, ordO ws y x) (h2 : ∀ y ∈ l.drop j, ordO ws x y) : (l.take j ++ [x] ++ l.drop j).Pairwise (ordO ws) := by
  have hs : (l.take j ++ l.drop j).Pairwise (ordO ws) := by rw [List.take_append_drop]; exact hp
  obtain ⟨a, b, c⟩ := List.pairwise_append.1 hs
  refine List.pairwise_append.2 ⟨List.pairwise_append.2 ⟨a, List.pairwise_singleton _ _, fun y hy z hz => ?_⟩, b, fun y hy z hz => ?_⟩
  · obtain rfl := List.mem_singleton.1 hz
    exact h1 y hy
  · rcases List.mem_append.1 hy with hy | hy
    · exact c y hy z hz
    · obtain rfl := List.mem_singleton.1 hy
      exact h2 z hz
theorem ins_perm {α : Type} {l : List α} {x : α} {j : Nat} : (l.take j ++ [x] ++ l.drop j).Perm (l ++ [x]) := by
  have h : (l.take j ++ [x] ++ l.drop j).Perm (l.take j ++ l.drop j ++ [x]) := by
    rw [List.append_assoc, List.append_assoc]
    exact List.Perm.append_left _ List.perm_append_comm
  rwa [List.take_append_drop] at h
/-- All ahead of the place, if the last of them is. -/
theorem ahead_all {ws : List (List Int)} {l : List (Int × Int)} {x : Int × Int} {j : Int} (hp : l.Pairwise (ordO ws)) (h0 : 0 < j) (hj : j ≤ l.length) (h : ordO ws (rdp l (j - 1)) x) : ∀ y ∈ l.take j.toNat, ordO ws y x := by
  intro y hy
  obtain ⟨i, hi, rfl⟩ := List.mem_iff_getElem.1 hy
  rw [List.length_take] at hi
  rw [List.getElem_take]
  have hlast : (j - 1).toNat < l.length := by omega
  have e : rdp l (j - 1) = l[(j - 1).toNat] := by
    unfold rdp
    rw [List.getD_eq_getElem?_getD, List.getElem?_eq_getElem hlast]
    rfl
  rw [e] at h
  rcases Nat.lt_or_ge i (j - 1).toNat with a | a
  · exact ordO_trans (List.pairwise_iff_getElem.1 hp i (j - 1).toNat (by omega) hlast a) h
  · have : i = (j - 1).toNat := by omega
    subst this
    exact h
theorem cmp_turn {ws : List (List Int)} {t u : Int × Int} (ht : TV ws t) (hu : TV ws u) : cmpO ((rdl ws t.1).drop t.2.toNat ++ (rdl ws t.1).take t.2.toNat) ((rdl ws u.1).drop u.2.toNat ++ (rdl ws u.1).take u.2.toNat) < 0 ↔ Lt (tw ws t) (tw ws u) := by
  have e1 : om ((rdl ws t.1).drop t.2.toNat ++ (rdl ws t.1).take t.2.toNat) = tw ws t := funext (om_tw ht)
  have e2 : om ((rdl ws u.1).drop u.2.toNat ++ (rdl ws u.1).take u.2.toNat) = tw ws u := funext (om_tw hu)
  have l1 : 0 < ((rdl ws t.1).drop t.2.toNat ++ (rdl ws t.1).take t.2.toNat).length := by
    obtain ⟨a, b, c, d⟩ := ht
    rw [List.length_append, List.length_drop, List.length_take]; omega
  have l2 : 0 < ((rdl ws u.1).drop u.2.toNat ++ (rdl ws u.1).take u.2.toNat).length := by
    obtain ⟨a, b, c, d⟩ := hu
    rw [List.length_append, List.length_drop, List.length_take]; omega
  rw [cmpO_neg l1 l2, e1, e2]
end Go.Pure
