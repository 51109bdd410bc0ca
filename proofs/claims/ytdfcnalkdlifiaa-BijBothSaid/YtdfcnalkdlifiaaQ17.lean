/-
  Plain laws: ranks joined, as the program does it. Own work.
-/
import Derived.Test.YtdfcnalkdlifiaaQ16
namespace Go.Pure
open Go Go.Eng
/-- The rank so many places on, and one; nought behind the end. -/
def onF (l : List Int) (i h : Int) : Int := if (l.length : Int) ≤ i + h then 0 else rd l (i + h) + 1
theorem onF_rk {s : List Int} {n b : Nat} {i : Int} (h0 : 0 ≤ i) (hi : i < s.length) : onF (rkL s n) i b = rkOn s n (i.toNat + b) := by
  unfold onF rkOn
  rw [rkL_len]
  by_cases h : (s.length : Int) ≤ i + b
  · rw [if_pos h, if_neg (by omega)]
    rfl
  · rw [if_neg h, if_pos (by omega), rd_rkL (by omega) (by omega), show (i + (b : Int)).toNat = i.toNat + b by omega]
    rfl
theorem rkL_bd {s : List Int} {h : Nat} : ∀ x ∈ rkL s h, 0 ≤ x ∧ x < s.length := by
  intro x hx
  obtain ⟨i, hi, rfl⟩ := List.mem_map.1 hx
  have := rkS_top (h := h) (List.mem_range.1 hi)
  omega
theorem onL_bd {s : List Int} {n b : Nat} : ∀ x ∈ onL s n b, 0 ≤ x ∧ x < (s.length : Int) + 1 := by
  intro x hx
  obtain ⟨i, hi, rfl⟩ := List.mem_map.1 hx
  have := rkOn_le (s := s) (n := n) (i := i + b)
  omega
theorem iota_of {O : List Int} {n : Nat} (hl : O.length = n) (h : ∀ j : Int, 0 ≤ j → j < n → rd O j = j) : O = iota n := by
  refine list_ext_rd (by rw [hl, iota_len]) fun j h0 h1 => ?_
  rw [h j h0 (by omega)]
  unfold iota
  rw [rd_range h0 (by omega)]
  omega
theorem onL_of {s O : List Int} {n b : Nat} (hl : O.length = s.length) (h : ∀ j : Int, 0 ≤ j → j < s.length → rd O j = rkOn s n (j.toNat + b)) : O = onL s n b := by
  refine list_ext_rd (by rw [hl, onL_len]) fun j h0 h1 => ?_
  rw [h j h0 (by omega), rd_onL h0 (by omega)]
theorem joinO_len (s : List Int) (n b : Nat) : (joinO s n b).length = s.length := by rw [(join_perm s n b).length_eq, iota_len]
theorem joinO_mem {s : List Int} {n b : Nat} {p : Int} (h0 : 0 ≤ p) (h : p < s.length) : 0 ≤ rd (joinO s n b) p ∧ rd (joinO s n b) p < s.length :=
  mem_iota.1 ((join_perm s n b).subset (rd_mem h0 (by rw [joinO_len]; exact h)))
theorem joinO_inj {s : List Int} {n b : Nat} {p q : Int} (p0 : 0 ≤ p) (p1 : p < s.length) (q0 : 0 ≤ q) (q1 : q < s.length) (h : rd (joinO s n b) p = rd (joinO s n b) q) : p = q := by
  have hl := joinO_len s n b
  have hnd : (joinO s n b).Nodup := (join_perm s n b).symm.nodup (by
    unfold iota
    exact List.pairwise_map.2 (List.nodup_range.imp fun {x y} h hh => h (by omega)))
  have hp : p.toNat < (joinO s n b).length := by omega
  have hq : q.toNat < (joinO s n b).length := by omega
  unfold rd at h
  rw [List.getD_eq_getElem?_getD, List.getD_eq_getElem?_getD, List.getElem?_eq_getElem hp, List.getElem?_eq_getElem hq] at h
  simp only [Option.getD_some] at h
  rcases Int.lt_trichotomy p q with a | a | a
  · exact absurd h (List.pairwise_iff_getElem.1 hnd p.toNat q.toNat hp hq (by omega))
  · exact a
  · exact absurd h.symm (List.pairwise_iff_getElem.1 hnd q.toNat p.toNat hq hp (by omega))
theorem upd_upd {l : List Int} {i a b : Int} : upd (upd l i a) i b = upd l i b := by simp [upd]
section
variable {s V : List Int} {n b : Nat} {p : Int}
theorem join_false (hn : 0 < n) (hb : b ≤ n) (h0 : 0 ≤ p) (hp : p < s.length) (hl : V.length = s.length) (h : ∀ q : Int, 0 ≤ q → q < p → rd V (rd (joinO s n b) q) = rkS s (n + b) (rd (joinO s n b) q).toNat)
    (hc : ¬ ((0 < p ∧ rd (rkL s n) (rd (joinO s n b) (p - 1)) = rd (rkL s n) (rd (joinO s n b) p)) ∧ rd (onL s n b) (rd (joinO s n b) (p - 1)) = rd (onL s n b) (rd (joinO s n b) p))) :
    ∀ q : Int, 0 ≤ q → q < p + 1 → rd (upd V (rd (joinO s n b) p) p) (rd (joinO s n b) q) = rkS s (n + b) (rd (joinO s n b) q).toNat :=
  join_step hn hb h0 hp hl h (.inr ⟨fun ⟨a, c, d⟩ => hc ⟨⟨a, c⟩, d⟩, rfl⟩)
theorem join_true (hn : 0 < n) (hb : b ≤ n) (h0 : 0 ≤ p) (hp : p < s.length) (hl : V.length = s.length) (h : ∀ q : Int, 0 ≤ q → q < p → rd V (rd (joinO s n b) q) = rkS s (n + b) (rd (joinO s n b) q).toNat)
    (hc : (0 < p ∧ rd (rkL s n) (rd (joinO s n b) (p - 1)) = rd (rkL s n) (rd (joinO s n b) p)) ∧ rd (onL s n b) (rd (joinO s n b) (p - 1)) = rd (onL s n b) (rd (joinO s n b) p)) :
    ∀ q : Int, 0 ≤ q → q < p + 1 → rd (upd (upd V (rd (joinO s n b) p) p) (rd (joinO s n b) p) (rd (upd V (rd (joinO s n b) p) p) (rd (joinO s n b) (p - 1)))) (rd (joinO s n b) q) = rkS s (n + b) (rd (joinO s n b) q).toNat := by
  obtain ⟨⟨a, c⟩, d⟩ := hc
  have m1 := joinO_mem (s := s) (n := n) (b := b) h0 hp
  have m2 := joinO_mem (s := s) (n := n) (b := b) (p := p - 1) (by omega) (by omega)
  rw [upd_upd, rd_upd m1.1 m2.1 (by omega), if_neg fun e => by have := joinO_inj (by omega) (by omega) h0 hp e; omega]
  exact join_step hn hb h0 hp hl h (.inl ⟨a, c, d, h (p - 1) (by omega) (by omega)⟩)
end
theorem rk_zero (s : List Int) (i : Nat) : rkS s 0 i = 0 := by
  unfold rkS
  rw [List.countP_eq_zero]
  intro k _
  simp [cutE, cmpL]
theorem rkL_zero (s : List Int) : rkL s 0 = List.replicate s.length 0 := by
  unfold rkL
  apply List.ext_getElem (by simp)
  intro i h1 h2
  simp [rk_zero]
theorem rk_cap {s : List Int} {h : Nat} (hh : s.length ≤ h) : rkL s h = rkL s s.length := by
  have e : ∀ k, cutE s k h = cutE s k s.length := fun k => by
    unfold cutE
    rw [List.take_of_length_le (by rw [List.length_drop]; omega), List.take_of_length_le (by rw [List.length_drop]; omega)]
  unfold rkL rkS
  simp only [e]
theorem rkL_none {s : List Int} (h : s.length = 0) (a b : Nat) : rkL s a = rkL s b := by
  unfold rkL
  rw [h]
  rfl
end Go.Pure
