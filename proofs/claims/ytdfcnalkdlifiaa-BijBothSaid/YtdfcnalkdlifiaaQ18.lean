/-
  Plain laws: as many of each byte. Own work.
-/
import Derived.Test.YtdfcnalkdlifiaaQ15
namespace Go.Pure
open Go Go.Eng
def cntOf (c : Int) (l : List Int) : Int := ((l.filter fun x => decide (x = c)).length : Int)
theorem cntOf_snoc (c x : Int) (l : List Int) : cntOf c (l ++ [x]) = cntOf c l + if x = c then 1 else 0 := by
  unfold cntOf
  rw [List.filter_append, List.length_append]
  by_cases h : x = c
  · rw [List.filter_cons_of_pos (by simpa using h), if_pos h]; simp
  · rw [List.filter_cons_of_neg (by simpa using h), if_neg h]; simp
theorem cntOf_bd (c : Int) (l : List Int) : 0 ≤ cntOf c l ∧ cntOf c l ≤ l.length := by
  unfold cntOf
  have := List.length_filter_le (fun x => decide (x = c)) l
  omega
def CntI (u m : List Int) (i : Int) (V : List Int) : Prop := ∀ c : Int, 0 ≤ c → c < 256 → rd V c = cntOf c (u.take i.toNat) - cntOf c (m.take i.toNat)
section
variable {u m V : List Int} {i : Int}
theorem cntI_zero : CntI u m 0 (List.replicate 256 0) := fun c h0 h1 => by
  rw [rd_replicate]
  rfl
theorem cntI_step (h0 : 0 ≤ i) (hu : i < u.length) (hm : i < m.length) (hl : V.length = 256) (bu : 0 ≤ rd u i ∧ rd u i < 256) (bm : 0 ≤ rd m i ∧ rd m i < 256) (h : CntI u m i V) :
    CntI u m (i + 1) (upd (upd V (rd u i) (rd V (rd u i) + 1)) (rd m i) (rd (upd V (rd u i) (rd V (rd u i) + 1)) (rd m i) - 1)) := by
  intro c c0 c1
  have hv := h c c0 c1
  rw [take_rd h0 hu, take_rd h0 hm, cntOf_snoc, cntOf_snoc]
  generalize rd u i = x at bu ⊢
  generalize rd m i = y at bm ⊢
  by_cases e1 : y = c
  · subst e1
    rw [rd_upd bm.1 bm.1 (by rw [upd_length]; omega), if_pos rfl, if_pos rfl, rd_upd bu.1 bm.1 (by omega)]
    by_cases e2 : x = y
    · subst e2
      rw [if_pos rfl, if_pos rfl]; omega
    · rw [if_neg fun h => e2 h.symm, if_neg e2]; omega
  · rw [rd_upd bm.1 c0 (by rw [upd_length]; omega), if_neg fun h => e1 h.symm, if_neg e1, rd_upd bu.1 c0 (by omega)]
    by_cases e2 : x = c
    · subst e2
      rw [if_pos rfl, if_pos rfl]; omega
    · rw [if_neg fun h => e2 h.symm, if_neg e2]; omega
theorem CntI.bound (h : CntI u m i V) (hi : i ≤ 1000) {c : Int} (h0 : 0 ≤ c) (h1 : c < 256) : -1000 ≤ rd V c ∧ rd V c ≤ 1000 := by
  have a := cntOf_bd c (u.take i.toNat)
  have b := cntOf_bd c (m.take i.toNat)
  rw [List.length_take] at a b
  rw [h c h0 h1]
  omega
theorem cntI_done (hp : m.Perm u) (hi : i = u.length) (h : CntI u m i V) {j : Int} (h0 : 0 ≤ j) (h1 : j < 256) : rd V j = 0 := by
  have hl := hp.length_eq
  rw [h j h0 h1, List.take_of_length_le (by omega), List.take_of_length_le (by omega)]
  unfold cntOf
  rw [(hp.filter _).length_eq]
  omega
end
theorem rd_mapP {l : List (Int × Int)} {f : Int × Int → Int} {i : Int} (h0 : 0 ≤ i) (h : i < l.length) : rd (l.map f) i = f (rdp l i) := by
  unfold rd rdp
  rw [List.getD_eq_getElem?_getD, List.getD_eq_getElem?_getD, List.getElem?_map, List.getElem?_eq_getElem (by omega)]
  rfl
end Go.Pure
