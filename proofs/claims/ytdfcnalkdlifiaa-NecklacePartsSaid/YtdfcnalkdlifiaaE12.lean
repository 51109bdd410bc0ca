/-
  Engine: slices.SortFunc over pairs, by the kit's contract. Own work.
-/
import Derived.Test.YtdfcnalkdlifiaaE11
import Derived.Shelf.SlSortCmp.WholeK
namespace Go.Eng
open Go Go.RowKit Go.Proofs Go.Sort
theorem prs_get : ∀ (l : List (Int × Int)) (t : Nat), t < l.length * 2 → (prs l)[t]? = some (if t % 2 = 0 then .int .i64 (l.getD (t / 2) (0, 0)).1 else .int .i64 (l.getD (t / 2) (0, 0)).2)
  | [], t, h => by simp at h
  | p :: l, 0, _ => rfl
  | p :: l, 1, _ => rfl
  | p :: l, t + 2, h => by
    have ih := prs_get l t (by simp only [List.length_cons] at h; omega)
    have e1 : (t + 2) % 2 = t % 2 := by omega
    have e2 : (t + 2) / 2 = t / 2 + 1 := by omega
    rw [e1, e2]
    show (Value.int .i64 p.1 :: Value.int .i64 p.2 :: prs l)[t + 2]? = _
    rw [List.getElem?_cons_succ, List.getElem?_cons_succ, ih]
    rfl
/-- A pair's cells. -/
def encP {l : List (Int × Int)} (x : { p : Int × Int // p ∈ l }) : List Value := [.int .i64 x.1.1, .int .i64 x.1.2]
theorem flatK_prs {l : List (Int × Int)} [Inhabited { p : Int × Int // p ∈ l }] (d : Array { p : Int × Int // p ∈ l }) : (flatK encP 2 d).toList = prs (d.toList.map Subtype.val) := by
  apply List.ext_getElem?
  intro t
  have hs : (flatK encP 2 d).size = d.size * 2 := size_flatK _ _ _
  by_cases h : t < d.size * 2
  · rw [prs_get _ t (by simpa using h), Array.getElem?_toList]
    have h2 : t / 2 < d.size := by omega
    have hg : (flatK encP 2 d)[t]? = some ((flatK encP 2 d)[t]!) := by
      rw [Array.getElem?_eq_getElem (by rw [hs]; exact h), getElem!_pos _ t (by rw [hs]; exact h)]
    rw [hg, get_flatK encP 2 d t h]
    have e : d[t / 2]! = d[t / 2] := getElem!_pos d _ h2
    have e3 : (d.toList.map Subtype.val).getD (t / 2) (0, 0) = d[t / 2].1 := by
      simp [List.getD_eq_getElem?_getD, h2]
    rw [e, e3]
    rcases Nat.mod_two_eq_zero_or_one t with hm | hm
    · rw [hm]; rfl
    · rw [hm]; rfl
  · rw [List.getElem?_eq_none (by rw [Array.length_toList, hs]; omega), List.getElem?_eq_none (by rw [prs_length]; simp; omega)]
end Go.Eng
