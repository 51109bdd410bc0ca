/-
  Engine: a row of slices that grows. Own work.
-/
import Derived.Test.YtdfcnalkdlifiaaE15
namespace Go.Eng
open Go Go.RowKit
theorem Rd.cutI {w : World} {A : Option Addr} {m c l h : Nat} {k : IntKind} {xs : List Int} (hr : Rd w A m c 1 (ints k xs)) (h1 : l ≤ h) (h2 : h ≤ m) : Rd w (cutA A l c 1) (h - l) (c - l) 1 (ints k ((xs.drop l).take (h - l))) :=
  RdC.cutI (hr.c []) h1 h2 w (Hp.refl _)
theorem Rd.fromI {w : World} {A : Option Addr} {m c l : Nat} {k : IntKind} {xs : List Int} (hr : Rd w A m c 1 (ints k xs)) (h1 : l ≤ m) : Rd w (cutA A l c 1) (m - l) (c - l) 1 (ints k (xs.drop l)) :=
  RdC.fromI (hr.c []) h1 w (Hp.refl _)
theorem Rd.toI {w : World} {A : Option Addr} {m c h : Nat} {k : IntKind} {xs : List Int} (hr : Rd w A m c 1 (ints k xs)) (h2 : h ≤ m) : Rd w A h c 1 (ints k (xs.take h)) :=
  RdC.toI (hr.c []) h2 w (Hp.refl _)
theorem wf_byte {x : Int} (h : 0 ≤ x ∧ x < 256) : (Lit.int .u8 x).wf = true := by
  have h1 : IntKind.u8.min ≤ x := h.1
  have h2 : x ≤ IntKind.u8.max := by
    have : IntKind.u8.max = 255 := by decide
    omega
  simp [Lit.wf, h1, h2]
theorem SlW.snoc {k : IntKind} {w : World} {vals : List Value} {ls : List (List Int)} {A : Option Addr} {m c : Nat} {l : List Int} (h : SlW k w vals ls) (hr : Rd w A m c 1 (ints k l)) (hwf : ∀ x ∈ l, (Lit.int k x).wf = true) (hm : l.length ≤ 140737488355327) : SlW k w (vals ++ [.slice A m c]) (ls ++ [l]) := by
  obtain rfl := hr.lenI
  refine ⟨by rw [List.length_append, List.length_append, h.1]; rfl, fun j hj => ?_⟩
  rcases Nat.lt_or_ge j ls.length with a | a
  · obtain ⟨A', c', h1, h2, h3, h4⟩ := h.2 j a
    have e : (ls ++ [l]).getD j [] = ls.getD j [] := by
      rw [List.getD_eq_getElem?_getD, List.getD_eq_getElem?_getD, List.getElem?_append_left a]
    rw [e]
    exact ⟨A', c', by rw [List.getElem?_append_left (by rw [h.1]; exact a)]; exact h1, h2, h3, h4⟩
  · have hj' : j = ls.length := by rw [List.length_append] at hj; simp at hj; omega
    have e : (ls ++ [l]).getD j [] = l := by
      rw [List.getD_eq_getElem?_getD, hj', List.getElem?_append_right (Nat.le_refl _)]
      simp
    rw [e]
    refine ⟨A, c, ?_, hr, hwf, hm⟩
    rw [hj', ← h.1, List.getElem?_append_right (Nat.le_refl _)]
    simp
end Go.Eng
