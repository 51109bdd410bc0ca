/-
  Plain laws: ranks by so many letters, and by twice as many. Own work.
-/
import Derived.Test.YtdfcnalkdlifiaaQ6
namespace Go.Pure
open Go Go.Eng
/-- A rotation, without end. -/
def tw (ws : List (List Int)) (t : Int × Int) (j : Nat) : Int := (rdl ws t.1).getD ((t.2.toNat + j) % (rdl ws t.1).length) 0
def TV (ws : List (List Int)) (t : Int × Int) : Prop := 0 ≤ t.1 ∧ t.1 < ws.length ∧ 0 ≤ t.2 ∧ t.2 < (rdl ws t.1).length
def LtH (H : Nat) (U V : Nat → Int) : Prop := ∃ k, k < H ∧ (∀ i, i < k → U i = V i) ∧ U k < V k
def EqH (H : Nat) (U V : Nat → Int) : Prop := ∀ i, i < H → U i = V i
theorem EqH.symm {H : Nat} {U V : Nat → Int} (h : EqH H U V) : EqH H V U := fun i hi => (h i hi).symm
theorem EqH.trans {H : Nat} {U V W : Nat → Int} (h : EqH H U V) (h' : EqH H V W) : EqH H U W := fun i hi => (h i hi).trans (h' i hi)
theorem LtH.not_eq {H : Nat} {U V : Nat → Int} (h : LtH H U V) : ¬ EqH H U V := fun e => by
  obtain ⟨k, hk, _, hl⟩ := h
  have := e k hk
  omega
theorem LtH.asymm {H : Nat} {U V : Nat → Int} (h : LtH H U V) : ¬ LtH H V U := by
  obtain ⟨k, hk, h1, hl⟩ := h
  rintro ⟨m, hm, h2, hl'⟩
  by_cases a : k < m
  · have := h2 k a; omega
  · by_cases b : m < k
    · have := h1 m b; omega
    · have : k = m := by omega
      subst this; omega
theorem LtH.trans {H : Nat} {U V W : Nat → Int} (h : LtH H U V) (h' : LtH H V W) : LtH H U W := by
  obtain ⟨k, hk, h1, hl⟩ := h
  obtain ⟨m, hm, h2, hl'⟩ := h'
  by_cases a : k < m
  · exact ⟨k, hk, fun i hi => (h1 i hi).trans (h2 i (by omega)), by rw [← h2 k a]; exact hl⟩
  · by_cases b : m < k
    · exact ⟨m, hm, fun i hi => (h1 i (by omega)).trans (h2 i hi), by rw [h1 m b]; exact hl'⟩
    · have : k = m := by omega
      subst this
      exact ⟨k, hk, fun i hi => (h1 i hi).trans (h2 i hi), by omega⟩
theorem LtH.eq_left {H : Nat} {U V W : Nat → Int} (h : EqH H U V) (h' : LtH H V W) : LtH H U W := by
  obtain ⟨k, hk, h1, hl⟩ := h'
  exact ⟨k, hk, fun i hi => (h i (by omega)).trans (h1 i hi), by rw [h k hk]; exact hl⟩
theorem LtH.eq_right {H : Nat} {U V W : Nat → Int} (h : LtH H U V) (h' : EqH H V W) : LtH H U W := by
  obtain ⟨k, hk, h1, hl⟩ := h
  exact ⟨k, hk, fun i hi => (h1 i hi).trans (h' i (by omega)), by rw [← h' k hk]; exact hl⟩
theorem tri (H : Nat) (U V : Nat → Int) : LtH H U V ∨ EqH H U V ∨ LtH H V U := by
  induction H with
  | zero => exact .inr (.inl fun i hi => by omega)
  | succ H ih =>
    rcases ih with ⟨k, hk, h⟩ | h | ⟨k, hk, h⟩
    · exact .inl ⟨k, by omega, h⟩
    · rcases Int.lt_trichotomy (U H) (V H) with a | a | a
      · exact .inl ⟨H, by omega, h, a⟩
      · refine .inr (.inl fun i hi => ?_)
        by_cases e : i = H
        · rw [e]; exact a
        · exact h i (by omega)
      · exact .inr (.inr ⟨H, by omega, fun i hi => (h i hi).symm, a⟩)
    · exact .inr (.inr ⟨k, by omega, h⟩)
theorem eqH_add {H h : Nat} {U V : Nat → Int} : EqH (H + h) U V ↔ EqH H U V ∧ EqH h (fun i => U (i + H)) (fun i => V (i + H)) := by
  constructor
  · exact fun e => ⟨fun i hi => e i (by omega), fun i hi => e (i + H) (by omega)⟩
  · rintro ⟨a, b⟩ i hi
    by_cases c : i < H
    · exact a i c
    · have := b (i - H) (by omega)
      simpa [Nat.sub_add_cancel (show H ≤ i by omega)] using this
theorem ltH_add {H h : Nat} {U V : Nat → Int} : LtH (H + h) U V ↔ LtH H U V ∨ EqH H U V ∧ LtH h (fun i => U (i + H)) (fun i => V (i + H)) := by
  constructor
  · rintro ⟨k, hk, h1, hl⟩
    by_cases c : k < H
    · exact .inl ⟨k, c, h1, hl⟩
    · refine .inr ⟨fun i hi => h1 i (by omega), k - H, by omega, fun i hi => h1 (i + H) (by omega), ?_⟩
      simpa [Nat.sub_add_cancel (show H ≤ k by omega)] using hl
  · rintro (⟨k, hk, h1, hl⟩ | ⟨e, k, hk, h1, hl⟩)
    · exact ⟨k, by omega, h1, hl⟩
    · refine ⟨k + H, by omega, fun i hi => ?_, hl⟩
      by_cases c : i < H
      · exact e i c
      · have := h1 (i - H) (by omega)
        simpa [Nat.sub_add_cancel (show H ≤ i by omega)] using this
/-- Ranks by H letters. -/
def RK (ws : List (List Int)) (bs : List Int) (H : Nat) (rs : List Int) : Prop := ∀ t u, TV ws t → TV ws u → (rd rs (posT bs t) < rd rs (posT bs u) ↔ LtH H (tw ws t) (tw ws u)) ∧ (rd rs (posT bs t) = rd rs (posT bs u) ↔ EqH H (tw ws t) (tw ws u))
/-- A rotation, so many letters on. -/
def sh (ws : List (List Int)) (t : Int × Int) (h : Int) : Int × Int := (t.1, (t.2 + h) % ((rdl ws t.1).length : Int))
theorem sh_tv {ws : List (List Int)} {t : Int × Int} {h : Int} (ht : TV ws t) : TV ws (sh ws t h) := by
  obtain ⟨a, b, c, d⟩ := ht
  exact ⟨a, b, Int.emod_nonneg _ (by omega), Int.emod_lt_of_pos _ (by omega)⟩
theorem ahd_sh (ws : List (List Int)) (bs rs : List Int) (t : Int × Int) (h : Int) : ahd ws bs rs t h = rd rs (posT bs (sh ws t h)) := rfl
theorem sh_zero {ws : List (List Int)} {t : Int × Int} (ht : TV ws t) : sh ws t 0 = t := by
  obtain ⟨a, b, c, d⟩ := ht
  unfold sh
  rw [Int.add_zero, Int.emod_eq_of_lt c d]
theorem tw_sh {ws : List (List Int)} {t : Int × Int} {h : Int} (ht : TV ws t) (hh : 0 ≤ h) (j : Nat) : tw ws (sh ws t h) j = tw ws t (j + h.toNat) := by
  obtain ⟨a, b, c, d⟩ := ht
  unfold tw sh
  simp only
  congr 1
  obtain ⟨x, hx⟩ : ∃ m : Nat, t.2 = m := ⟨t.2.toNat, by omega⟩
  obtain ⟨y, rfl⟩ : ∃ m : Nat, h = m := ⟨h.toNat, by omega⟩
  rw [hx, Int.toNat_natCast, Int.toNat_natCast, show ((x : Int) + (y : Int)) = ((x + y : Nat) : Int) by omega, ← Int.natCast_emod, Int.toNat_natCast, Nat.mod_add_mod]
  congr 1
  omega
/-- How many letters are told behind a doubling by h. -/
def nextH (h : Int) : Nat := if h = 0 then 1 else (2 * h).toNat
def curH (h : Int) : Nat := (max 1 h).toNat
theorem lt_next {ws : List (List Int)} {bs rs : List Int} {h : Int} (hh : 0 ≤ h) (hr : RK ws bs (curH h) rs) {t u : Int × Int} (ht : TV ws t) (hu : TV ws u) :
    (LtH (nextH h) (tw ws t) (tw ws u) ↔ (ahd ws bs rs t 0 < ahd ws bs rs u 0 ∨ ahd ws bs rs t 0 = ahd ws bs rs u 0 ∧ ahd ws bs rs t h < ahd ws bs rs u h)) ∧
    (EqH (nextH h) (tw ws t) (tw ws u) ↔ (ahd ws bs rs t 0 = ahd ws bs rs u 0 ∧ ahd ws bs rs t h = ahd ws bs rs u h)) := by
  have r0 := hr t u ht hu
  have r1 := hr _ _ (sh_tv (h := h) ht) (sh_tv (h := h) hu)
  rw [ahd_sh, ahd_sh, ahd_sh, ahd_sh, sh_zero ht, sh_zero hu]
  by_cases h0 : h = 0
  · subst h0
    rw [sh_zero ht, sh_zero hu]
    have e : nextH 0 = curH 0 := by decide
    rw [e, ← r0.1, ← r0.2]
    constructor <;> omega
  · have e1 : curH h = h.toNat := by unfold curH; omega
    have e2 : nextH h = h.toNat + h.toNat := by unfold nextH; rw [if_neg h0]; omega
    rw [e1] at r0 r1
    rw [e2, ltH_add, eqH_add, ← r0.1, ← r0.2]
    have f1 : (fun i => tw ws t (i + h.toNat)) = tw ws (sh ws t h) := funext fun i => (tw_sh ht hh i).symm
    have f2 : (fun i => tw ws u (i + h.toNat)) = tw ws (sh ws u h) := funext fun i => (tw_sh hu hh i).symm
    rw [f1, f2, ← r1.1, ← r1.2]
    exact ⟨Iff.rfl, Iff.rfl⟩
/-- First by so many letters, then by word and place. -/
def ltI (t u : Int × Int) : Prop := t.1 < u.1 ∨ t.1 = u.1 ∧ t.2 < u.2
def ordH (ws : List (List Int)) (H : Nat) (t u : Int × Int) : Prop := LtH H (tw ws t) (tw ws u) ∨ EqH H (tw ws t) (tw ws u) ∧ ltI t u
theorem tcmp_ord {ws : List (List Int)} {bs rs : List Int} {h : Int} (hh : 0 ≤ h) (hr : RK ws bs (curH h) rs) {t u : Int × Int} (ht : TV ws t) (hu : TV ws u) : tcmp ws bs rs h t u < 0 ↔ ordH ws (nextH h) t u := by
  obtain ⟨a, b⟩ := lt_next hh hr ht hu
  rw [tcmp_neg]
  unfold ordH ltI
  rw [a, b]
  omega
theorem keyNe_eq {ws : List (List Int)} {bs rs : List Int} {h : Int} (hh : 0 ≤ h) (hr : RK ws bs (curH h) rs) {t u : Int × Int} (ht : TV ws t) (hu : TV ws u) : keyNe ws bs rs h t u ↔ ¬ EqH (nextH h) (tw ws t) (tw ws u) := by
  obtain ⟨_, b⟩ := lt_next hh hr ht hu
  rw [b]
  unfold keyNe
  omega
end Go.Pure
