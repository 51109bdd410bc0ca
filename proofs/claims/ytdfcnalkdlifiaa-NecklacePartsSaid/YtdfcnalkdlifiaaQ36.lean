/-
  Plain laws: the least rotation. Own work.
-/
import Derived.Test.YtdfcnalkdlifiaaQ10
import Derived.Test.YtdfcnalkdlifiaaQ12
namespace Go.Pure
open Go Go.Eng
theorem cmpL_same : ∀ {a b : List Int}, a.length = b.length → (cmpL a b < 0 ↔ ∃ d, d < a.length ∧ (∀ e, e < d → lt a e = lt b e) ∧ lt a d < lt b d)
  | [], [], _ => by simp [cmpL]
  | x :: a, y :: b, h => by
    have ih := cmpL_same (a := a) (b := b) (by simpa using h)
    rw [cmpL]
    rcases Int.lt_trichotomy x y with c | c | c
    · rw [if_pos c]
      exact ⟨fun _ => ⟨0, by simp, fun e he => by omega, c⟩, fun _ => by omega⟩
    · subst c
      rw [if_neg (by omega), if_neg (by omega), ih]
      constructor
      · rintro ⟨d, h1, h2, h3⟩
        refine ⟨d + 1, by simpa using h1, fun e he => ?_, h3⟩
        cases e with
        | zero => rfl
        | succ e => exact h2 e (by omega)
      · rintro ⟨d, h1, h2, h3⟩
        cases d with
        | zero => exact absurd h3 (by simp [lt])
        | succ d => exact ⟨d, by simpa using h1, fun e he => h2 (e + 1) (by omega), h3⟩
    · rw [if_neg (by omega), if_pos c]
      refine ⟨fun h => by omega, ?_⟩
      rintro ⟨d, h1, h2, h3⟩
      cases d with
      | zero => have : x < y := h3; omega
      | succ d => have : x = y := h2 0 (by omega); omega
section
variable {s : List Int}
/-- A rotation, without end. -/
def rot (s : List Int) (r d : Nat) : Int := om s (r + d)
def turnS (s : List Int) (r : Int) : List Int := s.drop r.toNat ++ s.take r.toNat
theorem turnS_len (s : List Int) (r : Int) : (turnS s r).length = s.length := by unfold turnS; rw [List.length_append, List.length_drop, List.length_take]; omega
theorem turnS_at {r d : Nat} (hr : r ≤ s.length) (hd : d < s.length) : lt (turnS s r) d = rot s r d := by
  unfold turnS lt rot om
  rw [Int.toNat_natCast]
  rcases Nat.lt_or_ge (r + d) s.length with g | g
  · rw [List.getD_eq_getElem?_getD, List.getElem?_append_left (by rw [List.length_drop]; omega), List.getElem?_drop, Nat.mod_eq_of_lt g, ← List.getD_eq_getElem?_getD]
  · rw [List.getD_eq_getElem?_getD, List.getElem?_append_right (by rw [List.length_drop]; omega), List.length_drop, List.getElem?_take_of_lt (by omega), show (r + d) % s.length = d - (s.length - r) by rw [Nat.mod_eq_sub_mod g, Nat.mod_eq_of_lt (by omega)]; omega, ← List.getD_eq_getElem?_getD]
theorem rot_per (r : Nat) : Per (rot s r) s.length := fun d => by
  unfold rot
  rw [← Nat.add_assoc]
  exact om_per s _
theorem rot_mod (r : Nat) : rot s (r % s.length) = rot s r := by
  funext d
  unfold rot om
  rw [Nat.mod_add_mod]
theorem rot_same {r q : Nat} (hn : 0 < s.length) (h : ∀ d, d < s.length → rot s r d = rot s q d) : rot s r = rot s q := by
  funext d
  rw [← (rot_per r).mod d, ← (rot_per q).mod d]
  exact h _ (Nat.mod_lt _ hn)
theorem rot_lt {r q : Nat} (hr : r ≤ s.length) (hq : q ≤ s.length) : cmpL (turnS s r) (turnS s q) < 0 ↔ Lt (rot s r) (rot s q) := by
  rw [cmpL_same (by rw [turnS_len, turnS_len]), turnS_len]
  constructor
  · rintro ⟨d, h1, h2, h3⟩
    refine ⟨d, fun e he => ?_, ?_⟩
    · rw [← turnS_at hr (by omega), ← turnS_at hq (by omega)]; exact h2 e he
    · rw [← turnS_at hr h1, ← turnS_at hq h1]; exact h3
  · rintro ⟨d, h2, h3⟩
    rcases Nat.lt_or_ge d s.length with g | g
    · refine ⟨d, g, fun e he => ?_, ?_⟩
      · rw [turnS_at hr (by omega), turnS_at hq (by omega)]; exact h2 e he
      · rw [turnS_at hr g, turnS_at hq g]; exact h3
    · exfalso
      rcases Nat.eq_zero_or_pos s.length with z | z
      · have : ∀ r d, rot s r d = 0 := fun r d => by
          unfold rot om
          rw [List.eq_nil_of_length_eq_zero z]; rfl
        rw [this, this] at h3; omega
      · have := rot_same z fun e he => h2 e (by omega)
        rw [this] at h3; omega
/-- The first rotation that is not more than any. -/
structure FL (s : List Int) (b : Nat) : Prop where
  lt : b < s.length
  le : ∀ r, r < s.length → ¬ Lt (rot s r) (rot s b)
  first : ∀ r, r < b → Lt (rot s b) (rot s r)
theorem FL.any {b : Nat} (h : FL s b) (r : Nat) : ¬ Lt (rot s r) (rot s b) := by
  rw [← rot_mod r]
  exact h.le _ (Nat.mod_lt _ (by have := h.lt; omega))
theorem FL.one {b c : Nat} (h : FL s b) (g : FL s c) : b = c := by
  rcases Nat.lt_trichotomy b c with a | a | a
  · exact absurd (g.first b a) (h.any c)
  · exact a
  · exact absurd (h.first c a) (g.any b)
/-- As it is found one by one. -/
def lrotK (s : List Int) : Nat → Nat
  | 0 => 0
  | r + 1 => if cmpL (turnS s r) (turnS s (lrotK s r)) < 0 then r else lrotK s r
theorem lrotK_ok : ∀ n : Nat, 0 < n → n ≤ s.length → lrotK s n < n ∧ (∀ r, r < n → ¬ Lt (rot s r) (rot s (lrotK s n))) ∧ ∀ r, r < lrotK s n → Lt (rot s (lrotK s n)) (rot s r)
  | 1, _, h => by
    have e : lrotK s 1 = 0 := by
      rw [lrotK, lrotK]
      split <;> rfl
    rw [e]
    exact ⟨by omega, fun r hr => by obtain rfl : r = 0 := (by omega); exact fun h => h.asymm h, fun r hr => by omega⟩
  | n + 2, _, h => by
    have ih := lrotK_ok (n + 1) (by omega) (by omega)
    rw [lrotK]
    split
    · rename_i c
      rw [rot_lt (by omega) (by omega)] at c
      refine ⟨by omega, fun r hr => ?_, fun r hr => ?_⟩
      · rcases Nat.lt_or_ge r (n + 1) with g | g
        · exact fun hlt => ih.2.1 r g (hlt.trans c)
        · obtain rfl : r = n + 1 := by omega
          exact fun h => h.asymm h
      · rcases lt_tri (rot s (n + 1)) (rot s r) with a | a | a
        · exact a
        · exact absurd (by rw [← funext a]; exact c) (ih.2.1 r hr)
        · exact absurd (a.trans c) (ih.2.1 r hr)
    · rename_i c
      rw [rot_lt (by omega) (by omega)] at c
      refine ⟨by omega, fun r hr => ?_, ih.2.2⟩
      rcases Nat.lt_or_ge r (n + 1) with g | g
      · exact ih.2.1 r g
      · obtain rfl : r = n + 1 := by omega
        exact c
def lrot (s : List Int) : Int := lrotK s s.length
theorem lrot_FL (hn : 0 < s.length) : FL s (lrotK s s.length) := by
  have h := lrotK_ok (s := s) s.length hn (Nat.le_refl _)
  exact ⟨h.1, h.2.1, h.2.2⟩
theorem lrot_bd (s : List Int) : 0 ≤ lrot s ∧ lrot s ≤ s.length ∧ (0 < s.length → lrot s < s.length) := by
  unfold lrot
  rcases Nat.eq_zero_or_pos s.length with z | z
  · rw [z]; exact ⟨by omega, by show ((0 : Nat) : Int) ≤ _; omega, fun h => by omega⟩
  · have := (lrot_FL z).lt
    omega
/-- Two places, and how much they have alike. -/
structure LA (s : List Int) (b : Nat) (i j k : Int) : Prop where
  i0 : 0 ≤ i
  j0 : 0 ≤ j
  k0 : 0 ≤ k
  ne : i ≠ j
  agr : ∀ e : Nat, (e : Int) < k → rot s i.toNat e = rot s j.toNat e
  hb : (b : Int) = i ∨ (b : Int) = j ∨ (i < b ∧ j < b)
theorem LA.init (b : Nat) : LA s b 0 1 0 := ⟨by omega, by omega, by omega, by omega, fun e he => by omega, by omega⟩
variable {b : Nat} {i j k : Int}
theorem LA.swap (h : LA s b i j k) : LA s b j i k := ⟨h.j0, h.i0, h.k0, h.ne.symm, fun e he => (h.agr e he).symm, by have := h.hb; omega⟩
theorem LA.eq (h : LA s b i j k) (he : rot s i.toNat k.toNat = rot s j.toNat k.toNat) : LA s b i j (k + 1) :=
  ⟨h.i0, h.j0, by have := h.k0; omega, h.ne, fun e he' => by
    rcases Int.lt_or_le e k with g | g
    · exact h.agr e g
    · have := h.k0
      obtain rfl : e = k.toNat := by omega
      exact he, h.hb⟩
theorem LA.out (h : LA s b i j k) (fl : FL s b) (hgt : rot s j.toNat k.toNat < rot s i.toNat k.toNat) : ¬ (i ≤ b ∧ (b : Int) ≤ i + k) := fun hc => by
  have i0 := h.i0
  have k0 := h.k0
  obtain ⟨t, ht⟩ : ∃ t : Nat, b = i.toNat + t := ⟨b - i.toNat, by omega⟩
  refine fl.any (j.toNat + t) ⟨k.toNat - t, fun e he => ?_, ?_⟩
  · have := h.agr (t + e) (by omega)
    unfold rot at this ⊢
    rw [ht, Nat.add_assoc, Nat.add_assoc]
    exact this.symm
  · unfold rot at hgt ⊢
    rw [ht, Nat.add_assoc, Nat.add_assoc, show t + (k.toNat - t) = k.toNat by omega]
    exact hgt
theorem LA.gt (h : LA s b i j k) (fl : FL s b) (hgt : rot s j.toNat k.toNat < rot s i.toNat k.toNat) : (i + (k + 1) ≠ j → LA s b (i + (k + 1)) j 0) ∧ (i + (k + 1) = j → LA s b (i + (k + 1)) (j + 1) 0) := by
  have ho := h.out fl hgt
  have hb := h.hb
  have i0 := h.i0
  have j0 := h.j0
  have k0 := h.k0
  exact ⟨fun hne => ⟨by omega, j0, by omega, hne, fun e he => by omega, by omega⟩, fun he => ⟨by omega, by omega, by omega, by omega, fun e he => by omega, by omega⟩⟩
theorem LA.lt (h : LA s b i j k) (fl : FL s b) (hlt : rot s i.toNat k.toNat < rot s j.toNat k.toNat) : (i ≠ j + (k + 1) → LA s b i (j + (k + 1)) 0) ∧ (i = j + (k + 1) → LA s b i (j + (k + 1) + 1) 0) := by
  have ho := h.swap.out fl hlt
  have hb := h.hb
  have i0 := h.i0
  have j0 := h.j0
  have k0 := h.k0
  exact ⟨fun hne => ⟨i0, by omega, by omega, hne, fun e he => by omega, by omega⟩, fun he => ⟨by omega, by omega, by omega, by omega, fun e he => by omega, by omega⟩⟩
theorem LA.same (h : LA s b i j k) (fl : FL s b) (hn : (s.length : Int) ≤ k) : min i j = b := by
  have i0 := h.i0
  have j0 := h.j0
  have hlt := fl.lt
  have he : rot s i.toNat = rot s j.toNat := rot_same (by omega) fun d hd => h.agr d (by omega)
  have hne := h.ne
  have no : ∀ x : Nat, x < b → rot s x ≠ rot s b := fun x hx e => (fl.first x hx).not_eq fun d => by rw [e]
  rcases h.hb with e | e | ⟨e1, e2⟩
  · rcases Int.lt_or_le j i with g | g
    · exact absurd (by rw [show b = i.toNat by omega]; exact he.symm) (no j.toNat (by omega))
    · omega
  · rcases Int.lt_or_le i j with g | g
    · exact absurd (by rw [show b = j.toNat by omega]; exact he) (no i.toNat (by omega))
    · omega
  · exfalso
    have key : ∀ lo hi : Nat, lo < hi → hi < b → rot s lo = rot s hi → False := fun lo hi h1 h2 e => by
      refine no (lo + (b - hi)) (by omega) ?_
      funext d
      have := congrFun e ((b - hi) + d)
      unfold rot at this ⊢
      rw [Nat.add_assoc, this]
      congr 1
      omega
    rcases Int.lt_or_le i j with g | g
    · exact key i.toNat j.toNat (by omega) (by omega) he
    · exact key j.toNat i.toNat (by omega) (by omega) he.symm
theorem LA.done (h : LA s b i j k) (fl : FL s b) (hc : ¬ (i < s.length ∧ j < s.length ∧ k < s.length)) : min i j = b := by
  have hb := h.hb
  have hlt := fl.lt
  have hne := h.ne
  by_cases hk : (s.length : Int) ≤ k
  · exact h.same fl hk
  · omega
theorem rot_rd {i k : Int} (i0 : 0 ≤ i) (k0 : 0 ≤ k) : rd s ((i + k) % s.length) = rot s i.toNat k.toNat := by
  have := om_rd s (i.toNat + k.toNat)
  rw [show ((i.toNat + k.toNat : Nat) : Int) = i + k by omega] at this
  exact this
end
end Go.Pure
