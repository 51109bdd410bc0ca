/-
  Plain laws: a word's least period and its root. Own work.
-/
import Derived.Test.YtdfcnalkdlifiaaQ2
namespace Go.Pure
open Go.Eng
/-- The least period from p on, by so many tries. -/
def lpF (u : List Int) : Nat → Int → Int
  | 0, _ => 0
  | f + 1, p => if u.drop p.toNat = u.take ((u.length : Int) - p).toNat then p else lpF u f (p + 1)
/-- whorlref5.Least. -/
def lp (u : List Int) : Int := lpF u u.length 1
theorem lpF_hit {u : List Int} {f : Nat} {p : Int} (hf : 0 < f) (h : u.drop p.toNat = u.take ((u.length : Int) - p).toNat) : lpF u f p = p := by
  obtain ⟨f, rfl⟩ : ∃ g, f = g + 1 := ⟨f - 1, by omega⟩
  rw [lpF, if_pos h]
theorem lpF_go {u : List Int} {f : Nat} {p : Int} (hf : 0 < f) (h : ¬ u.drop p.toNat = u.take ((u.length : Int) - p).toNat) : lpF u f p = lpF u (f - 1) (p + 1) := by
  obtain ⟨f, rfl⟩ : ∃ g, f = g + 1 := ⟨f - 1, by omega⟩
  rw [lpF, if_neg h]
  rfl
/-- A period of a word. -/
def PerL (u : List Int) (p : Nat) : Prop := u.drop p = u.take (u.length - p)
theorem perL_iff {u : List Int} {p : Nat} : PerL u p ↔ ∀ i, i + p < u.length → u.getD (i + p) 0 = u.getD i 0 := by
  constructor
  · intro h i hi
    have := congrArg (fun l => l.getD i 0) h
    simp only [List.getD_eq_getElem?_getD, List.getElem?_drop, List.getElem?_take] at this
    rw [if_pos (by omega)] at this
    rw [List.getD_eq_getElem?_getD, List.getD_eq_getElem?_getD, Nat.add_comm]
    exact this
  · intro h
    refine List.ext_getElem (by simp) fun i h1 h2 => ?_
    simp only [List.length_drop] at h1
    have := h i (by omega)
    simp only [List.getD_eq_getElem?_getD] at this
    rw [List.getElem?_eq_getElem (by omega), List.getElem?_eq_getElem (by omega)] at this
    simp only [Option.getD_some] at this
    rw [List.getElem_drop, List.getElem_take, ← this]
    simp only [Nat.add_comm]
theorem lpF_spec (u : List Int) : ∀ (f : Nat) (p : Nat), 1 ≤ p → p + f = u.length + 1 → p ≤ u.length → ∃ r : Nat, lpF u f p = r ∧ p ≤ r ∧ r ≤ u.length ∧ PerL u r ∧ ∀ q, p ≤ q → q < r → ¬ PerL u q
  | 0, p, _, h2, h3 => by omega
  | f + 1, p, h1, h2, h3 => by
    have e : ((u.length : Int) - (p : Int)).toNat = u.length - p := by omega
    by_cases h : PerL u p
    · refine ⟨p, lpF_hit (by omega) ?_, Nat.le_refl _, h3, h, fun q a b => by omega⟩
      rw [Int.toNat_natCast, e]
      exact h
    · rw [lpF_go (by omega) (by rw [Int.toNat_natCast, e]; exact h)]
      have hlt : p < u.length := by
        rcases Nat.lt_or_ge p u.length with h' | h'
        · exact h'
        · have : p = u.length := by omega
          subst this
          exact absurd (by unfold PerL; simp) h
      obtain ⟨r, hr, h4, h5, h6, h7⟩ := lpF_spec u f (p + 1) (by omega) (by omega) (by omega)
      refine ⟨r, ?_, by omega, h5, h6, fun q a b => ?_⟩
      · rw [← hr]; rfl
      · by_cases hq : q = p
        · subst hq; exact h
        · exact h7 q (by omega) b
theorem lp_spec {u : List Int} (h : 0 < u.length) : ∃ r : Nat, lp u = r ∧ 1 ≤ r ∧ r ≤ u.length ∧ PerL u r ∧ ∀ q, 1 ≤ q → q < r → ¬ PerL u q :=
  lpF_spec u u.length 1 (Nat.le_refl 1) (by omega) h
/-- How long a word's root is. -/
def rl (u : List Int) : Int := if (u.length : Int) % lp u ≠ 0 then u.length else lp u
theorem perL_mod {u : List Int} {p : Nat} (hp : 0 < p) (h : PerL u p) : ∀ i, i < u.length → u.getD i 0 = u.getD (i % p) 0 := by
  intro i
  induction i using Nat.strongRecOn with
  | _ i ih =>
    intro hi
    by_cases hlt : i < p
    · rw [Nat.mod_eq_of_lt hlt]
    · have := perL_iff.1 h (i - p) (by omega)
      rw [Nat.sub_add_cancel (by omega)] at this
      rw [this, ih (i - p) (by omega) (by omega), ← Nat.mod_eq_sub_mod (by omega)]
theorem om_take {u : List Int} {p : Nat} (hp : 0 < p) (hn : p ≤ u.length) (i : Nat) : om (u.take p) i = u.getD (i % p) 0 := by
  unfold om
  rw [List.length_take, Nat.min_eq_left hn]
  simp only [List.getD_eq_getElem?_getD]
  rw [List.getElem?_take, if_pos (Nat.mod_lt _ hp)]
theorem om_root {u : List Int} {p : Nat} (hp : 0 < p) (hn : p ≤ u.length) (hd : p ∣ u.length) (h : PerL u p) (i : Nat) : om u i = om (u.take p) i := by
  rw [om_take hp hn]
  unfold om
  rw [perL_mod hp h _ (Nat.mod_lt _ (by omega)), Nat.mod_mod_of_dvd _ hd]
theorem perL_of {u : List Int} {d : Nat} (h : Per (om u) d) : PerL u d := by
  refine perL_iff.2 fun i hi => ?_
  rw [← om_lt hi, ← om_lt (by omega : i < u.length)]
  exact h i
theorem rl_spec {u : List Int} (h : 0 < u.length) : ∃ r : Nat, rl u = r ∧ 1 ≤ r ∧ r ≤ u.length ∧ (∀ i, om u i = om (u.take r) i) ∧ ∀ d, 1 ≤ d → Per (om u) d → r ≤ d := by
  obtain ⟨p, hp, h1, h2, h3, h4⟩ := lp_spec h
  have key : ∀ d, 1 ≤ d → Per (om u) d → d < u.length → p ∣ u.length ∧ p ≤ d := by
    intro d hd hper hlt
    have hg : Per (om u) (Nat.gcd d u.length) := Per.gcd _ _ hper (om_per u)
    have g1 : Nat.gcd d u.length ∣ u.length := Nat.gcd_dvd_right _ _
    have g2 : Nat.gcd d u.length ≤ d := Nat.le_of_dvd (by omega) (Nat.gcd_dvd_left _ _)
    have g3 : 0 < Nat.gcd d u.length := Nat.gcd_pos_of_pos_left _ (by omega)
    generalize Nat.gcd d u.length = g at *
    have p1 : p ≤ g := by
      rcases Nat.lt_or_ge g p with a | a
      · exact absurd (perL_of hg) (h4 g g3 a)
      · exact a
    have g4 : 2 * g ≤ u.length := by
      obtain ⟨k, hk⟩ := g1
      have : 2 ≤ k := by
        rcases Nat.lt_or_ge k 2 with a | a
        · have : k = 0 ∨ k = 1 := by omega
          rcases this with rfl | rfl <;> omega
        · exact a
      rw [hk]
      calc 2 * g ≤ k * g := Nat.mul_le_mul_right _ this
        _ = g * k := Nat.mul_comm _ _
    have ag : ∀ i, om (u.take p) i = om u i := by
      refine agree (p := p) (q := g) (by omega) g3 ?_ hg fun i hi => ?_
      · have := om_per (u.take p)
        rwa [List.length_take, Nat.min_eq_left h2] at this
      · rw [om_take (by omega) h2, om_lt (by omega), ← perL_mod (by omega) h3 i (by omega)]
    have pp : Per (om u) p := by
      intro i
      rw [← ag, ← ag]
      have := om_per (u.take p) i
      rwa [List.length_take, Nat.min_eq_left h2] at this
    have hh : Per (om u) (Nat.gcd p u.length) := Per.gcd _ _ pp (om_per u)
    have e1 : Nat.gcd p u.length ∣ p := Nat.gcd_dvd_left _ _
    have e2 : Nat.gcd p u.length ∣ u.length := Nat.gcd_dvd_right _ _
    have e3 : 0 < Nat.gcd p u.length := Nat.gcd_pos_of_pos_left _ (by omega)
    have e4 := Nat.le_of_dvd (by omega) e1
    have e5 : p ≤ Nat.gcd p u.length := by
      rcases Nat.lt_or_ge (Nat.gcd p u.length) p with a | a
      · exact absurd (perL_of hh) (h4 _ e3 a)
      · exact a
    have e6 : Nat.gcd p u.length = p := by omega
    rw [e6] at e2
    exact ⟨e2, by omega⟩
  by_cases hd : p ∣ u.length
  · refine ⟨p, ?_, h1, h2, om_root (by omega) h2 hd h3, fun d a b => ?_⟩
    · unfold rl
      rw [hp, if_neg]
      · intro hn
        refine hn ?_
        rw [← Int.natCast_emod, Nat.mod_eq_zero_of_dvd hd]
        rfl
    · rcases Nat.lt_or_ge d u.length with c | c
      · exact (key d a b c).2
      · omega
  · refine ⟨u.length, ?_, by omega, Nat.le_refl _, fun i => by rw [List.take_length], fun d a b => ?_⟩
    · unfold rl
      rw [hp, if_pos]
      intro hz
      rw [← Int.natCast_emod] at hz
      exact hd (Nat.dvd_of_mod_eq_zero (by omega))
    · rcases Nat.lt_or_ge d u.length with c | c
      · exact absurd (key d a b c).1 hd
      · exact c
theorem rl_range {u : List Int} (h : 0 < u.length) : 1 ≤ rl u ∧ rl u ≤ u.length := by
  obtain ⟨r, e, h1, h2, _⟩ := rl_spec h
  omega
theorem lp_range {u : List Int} (h : 0 < u.length) : 1 ≤ lp u ∧ lp u ≤ u.length := by
  obtain ⟨r, e, h1, h2, _⟩ := lp_spec h
  omega
/-- Two words are the same without end just if they have one root. -/
theorem root_same {u v : List Int} (hu : 0 < u.length) (hv : 0 < v.length) : cmpO u v = 0 ↔ u.take (rl u).toNat = v.take (rl v).toNat := by
  obtain ⟨r, er, r1, r2, r3, r4⟩ := rl_spec hu
  obtain ⟨s, es, s1, s2, s3, s4⟩ := rl_spec hv
  rw [er, es, Int.toNat_natCast, Int.toNat_natCast, cmpO_zero hu hv]
  have pu : Per (om u) r := by
    intro i
    rw [r3, r3]
    have := om_per (u.take r) i
    rwa [List.length_take, Nat.min_eq_left r2] at this
  have pv : Per (om v) s := by
    intro i
    rw [s3, s3]
    have := om_per (v.take s) i
    rwa [List.length_take, Nat.min_eq_left s2] at this
  constructor
  · intro h
    have a : r ≤ s := r4 s s1 fun i => by rw [h, h]; exact pv i
    have b : s ≤ r := s4 r r1 fun i => by rw [← h, ← h]; exact pu i
    have : r = s := by omega
    subst this
    refine List.ext_getElem (by simp; omega) fun i h1 h2 => ?_
    simp only [List.length_take] at h1 h2
    rw [List.getElem_take, List.getElem_take]
    have := h i
    rw [om_lt (by omega), om_lt (by omega), List.getD_eq_getElem?_getD, List.getD_eq_getElem?_getD, List.getElem?_eq_getElem (by omega), List.getElem?_eq_getElem (by omega)] at this
    exact this
  · intro h i
    rw [r3, s3, h]
theorem om_rep {u : List Int} {a : Nat} (hu : 0 < u.length) (ha : 0 < a) (i : Nat) : om (rep u a) i = om u i := by
  have l : (rep u a).length = a * u.length := by rw [rep_length, Int.toNat_natCast]
  have hp : 0 < a * u.length := Nat.mul_pos ha hu
  have hm : i % (a * u.length) < a * u.length := Nat.mod_lt _ hp
  have e : om (rep u a) i = (rep u a).getD (i % (rep u a).length) 0 := rfl
  rw [e, l, rep_getD u a _ hm]
  unfold om
  rw [Nat.mod_mod_of_dvd _ (Nat.dvd_mul_left _ _)]
theorem cmpO_rep {u : List Int} {a b : Int} (hu : 0 < u.length) (ha : 1 ≤ a) (hb : 1 ≤ b) : cmpO (rep u a) (rep u b) = 0 := by
  obtain ⟨a, rfl⟩ : ∃ n : Nat, a = n := ⟨a.toNat, by omega⟩
  obtain ⟨b, rfl⟩ : ∃ n : Nat, b = n := ⟨b.toNat, by omega⟩
  have l1 : (rep u a).length = a * u.length := by rw [rep_length, Int.toNat_natCast]
  have l2 : (rep u b).length = b * u.length := by rw [rep_length, Int.toNat_natCast]
  have p1 : 0 < (rep u a).length := by rw [l1]; exact Nat.mul_pos (by omega) hu
  have p2 : 0 < (rep u b).length := by rw [l2]; exact Nat.mul_pos (by omega) hu
  exact (cmpO_zero p1 p2).2 fun i => by rw [om_rep hu (by omega), om_rep hu (by omega)]
theorem rep_le {u : List Int} {a : Int} {N : Nat} (h1 : 0 ≤ a ∧ a ≤ 5) (h2 : u.length ≤ N) : (rep u a).length ≤ 5 * N := by
  rw [rep_length]
  exact Nat.mul_le_mul (by omega) h2
end Go.Pure
