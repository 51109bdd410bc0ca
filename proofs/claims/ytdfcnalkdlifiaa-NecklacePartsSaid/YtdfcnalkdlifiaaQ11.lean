/-
  Plain laws: the document's own way to put all rotations in order. Own work.
-/
import Derived.Test.YtdfcnalkdlifiaaQ10
namespace Go.Pure
open Go Go.Eng
theorem mem_part {ws : List (List Int)} {w k : Int} {u : Int × Int} (hw0 : 0 ≤ w) (hw : w < ws.length) (hk : k ≤ (rdl ws w).length) (h : u ∈ tlist ws w.toNat ++ turnsOf w k.toNat) : TV ws u ∧ ltI u (w, k) := by
  rcases List.mem_append.1 h with h | h
  · obtain ⟨⟨a, b⟩, c, d⟩ := mem_tlist.1 h
    exact ⟨⟨a, by omega, c, d⟩, .inl (by simp only; omega)⟩
  · obtain ⟨a, b, c⟩ := mem_turnsOf.1 h
    obtain ⟨u1, u2⟩ := u
    simp only at a b c
    subst a
    exact ⟨⟨hw0, hw, b, by simp only; omega⟩, .inr ⟨rfl, by simp only; omega⟩⟩
theorem rdp_part {ws : List (List Int)} {w k : Int} {U : List (Int × Int)} (hw0 : 0 ≤ w) (hw : w < ws.length) (hk : k ≤ (rdl ws w).length) (hp : U.Perm (tlist ws w.toNat ++ turnsOf w k.toNat)) (i : Int) (h0 : 0 ≤ i) (h : i < U.length) : TV ws (rdp U i) ∧ ltI (rdp U i) (w, k) :=
  mem_part hw0 hw hk (hp.subset (rdp_mem h0 h))
def turnL (ws : List (List Int)) (t : Int × Int) : List Int := (rdl ws t.1).drop t.2.toNat ++ (rdl ws t.1).take t.2.toNat
theorem ins_down {ws : List (List Int)} {w k j : Int} {U : List (Int × Int)} (hw0 : 0 ≤ w) (hw : w < ws.length) (hk0 : 0 ≤ k) (hk : k < (rdl ws w).length) (hp : U.Perm (tlist ws w.toNat ++ turnsOf w k.toNat)) (hj0 : 0 ≤ j) (hj : j ≤ U.length)
    (hgt : ∀ i : Int, j ≤ i → i < U.length → ordO ws (w, k) (rdp U i)) (h : 0 < j ∧ cmpO (turnL ws (w, k)) (turnL ws (rdp U (j - 1))) < 0) : ∀ i : Int, j - 1 ≤ i → i < U.length → ordO ws (w, k) (rdp U i) := by
  intro i h1 h2
  rcases Int.lt_or_le i j with a | a
  · have : i = j - 1 := by omega
    subst this
    exact .inl ((cmp_turn ⟨hw0, hw, hk0, hk⟩ (rdp_part hw0 hw (by omega) hp (j - 1) (by omega) h2).1).1 h.2)
  · exact hgt i a h2
theorem ins_all {ws : List (List Int)} {w k j : Int} {U : List (Int × Int)} (hw0 : 0 ≤ w) (hw : w < ws.length) (hk0 : 0 ≤ k) (hk : k < (rdl ws w).length) (hp : U.Perm (tlist ws w.toNat ++ turnsOf w k.toNat)) (hs : U.Pairwise (ordO ws)) (hj0 : 0 ≤ j) (hj : j ≤ U.length)
    (hgt : ∀ i : Int, j ≤ i → i < U.length → ordO ws (w, k) (rdp U i)) (h : ¬ (0 < j ∧ cmpO (turnL ws (w, k)) (turnL ws (rdp U (j - 1))) < 0)) :
    (U.take j.toNat ++ [(w, k)] ++ U.drop j.toNat).Perm (tlist ws w.toNat ++ turnsOf w (k + 1).toNat) ∧ (U.take j.toNat ++ [(w, k)] ++ U.drop j.toNat).Pairwise (ordO ws) := by
  refine ⟨?_, ins_sorted hs ?_ ?_⟩
  · rw [turnsOf_succ w hk0, ← List.append_assoc]
    exact ins_perm.trans (List.Perm.append_right _ hp)
  · rcases Int.lt_or_le 0 j with a | a
    · have hq := rdp_part hw0 hw (by omega) hp (j - 1) (by omega) (by omega)
      refine ahead_all hs a hj (ordO_of_not (fun hl => h ⟨a, (cmp_turn ⟨hw0, hw, hk0, hk⟩ hq.1).2 hl⟩) hq.2)
    · intro y hy
      rw [show j.toNat = 0 by omega, List.take_zero] at hy
      cases hy
  · intro y hy
    obtain ⟨i, hi, rfl⟩ := List.mem_iff_getElem.1 hy
    rw [List.length_drop] at hi
    have hlt : j.toNat + i < U.length := by omega
    rw [List.getElem_drop]
    have := hgt (j + (i : Int)) (by omega) (by omega)
    have e : rdp U (j + (i : Int)) = U[j.toNat + i] := by
      unfold rdp
      rw [show (j + (i : Int)).toNat = j.toNat + i by omega, List.getD_eq_getElem?_getD, List.getElem?_eq_getElem hlt]
      rfl
    rwa [e] at this
end Go.Pure
