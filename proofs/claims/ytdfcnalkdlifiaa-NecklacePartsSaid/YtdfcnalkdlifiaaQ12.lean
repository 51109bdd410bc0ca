/-
  Plain laws: words that are less than all their endings, and Duval's way to fall into them. Own work.
-/
import Derived.Test.YtdfcnalkdlifiaaQ1
namespace Go.Pure
open Go Go.Eng
/-- A word told by its letters is less than all its endings. -/
def Lyn (f : Nat → Int) (p : Nat) : Prop := 0 < p ∧ ∀ r, 0 < r → r < p → ∃ d, r + d < p ∧ (∀ e, e < d → f e = f (r + e)) ∧ f d < f (r + d)
def Perj (f : Nat → Int) (p j : Nat) : Prop := ∀ i, i + p < j → f (i + p) = f i
theorem Perj.mod {f : Nat → Int} {p j : Nat} (hp : 0 < p) (h : Perj f p j) : ∀ i, i < j → f i = f (i % p) := by
  intro i
  induction i using Nat.strongRecOn with
  | ind i ih =>
    intro hi
    rcases Nat.lt_or_ge i p with a | a
    · rw [Nat.mod_eq_of_lt a]
    · have e := h (i - p) (by omega)
      rw [show i - p + p = i by omega] at e
      rw [e, ih (i - p) (by omega) (by omega)]
      congr 1
      rw [Nat.mod_eq_sub_mod a]
theorem duval_lt {f : Nat → Int} {p j : Nat} (hL : Lyn f p) (hper : Perj f p j) (hpj : p ≤ j) (hlt : f (j - p) < f j) : Lyn f (j + 1) := by
  obtain ⟨hp, hL⟩ := hL
  have hm := hper.mod hp
  refine ⟨by omega, fun r h0 hr => ?_⟩
  have hjp : (j - p) % p = j % p := (Nat.mod_eq_sub_mod hpj).symm
  have hq : ∀ e, r + e < j → r % p + e < p → f (r + e) = f (r % p + e) := by
    intro e h1 h2
    rw [hm _ h1]
    congr 1
    rw [Nat.add_mod, Nat.mod_eq_of_lt (a := e) (by omega), Nat.mod_eq_of_lt h2]
  have hjm : f (j - p) = f (j % p) := by rw [hm (j - p) (by omega), hjp]
  rcases Nat.eq_zero_or_pos (r % p) with hz | hz
  · refine ⟨j - r, by omega, fun e he => ?_, ?_⟩
    · rw [hm e (by omega), hm (r + e) (by omega)]
      congr 1
      rw [Nat.add_mod, hz, Nat.zero_add, Nat.mod_mod]
    · rw [show r + (j - r) = j by omega]
      have e1 : (j - r) % p = j % p := by
        have : j = r + (j - r) := by omega
        conv => rhs; rw [this, Nat.add_mod, hz, Nat.zero_add, Nat.mod_mod]
      rcases Nat.lt_or_ge 0 r with _ | _
      · rw [hm (j - r) (by omega), e1, ← hjm]; exact hlt
      · omega
  · obtain ⟨d0, hd, heq, hl⟩ := hL (r % p) hz (Nat.mod_lt _ hp)
    rcases Nat.lt_or_ge (r + d0) j with a | a
    · refine ⟨d0, by omega, fun e he => ?_, ?_⟩
      · rw [hq e (by omega) (by omega)]; exact heq e he
      · rw [hq d0 a hd]; exact hl
    · refine ⟨j - r, by omega, fun e he => ?_, ?_⟩
      · rw [hq e (by omega) (by omega)]; exact heq e (by omega)
      · rw [show r + (j - r) = j by omega]
        have e1 : j % p = r % p + (j - r) := by
          have : j = r + (j - r) := by omega
          conv => lhs; rw [this, Nat.add_mod, Nat.mod_eq_of_lt (a := j - r) (by omega)]
          exact Nat.mod_eq_of_lt (by omega)
        rw [e1] at hjm
        have : f (j - r) ≤ f (r % p + (j - r)) := by
          rcases Nat.lt_or_ge (j - r) d0 with b | b
          · exact Int.le_of_eq (heq _ b)
          · have : j - r = d0 := by omega
            rw [this]; omega
        omega
theorem duval_max {f : Nat → Int} {p j n : Nat} (hp : 0 < p) (hper : Perj f p j) (hpj : p ≤ j) (hstop : j < n → f j < f (j - p)) {m : Nat} (hpm : p < m) (hm : m ≤ n) : ¬ Lyn f m := by
  rintro ⟨_, h⟩
  obtain ⟨d, hd, heq, hl⟩ := h p hp hpm
  rcases Nat.lt_or_ge (p + d) j with a | a
  · have := hper d (by omega)
    rw [Nat.add_comm p d, this] at hl
    omega
  · have hs := hstop (by omega)
    rcases Nat.lt_or_ge (j - p) d with b | b
    · have := heq _ b
      rw [show p + (j - p) = j by omega] at this
      omega
    · rw [show j - p = d by omega] at hs
      rw [show p + d = j by omega] at hl
      omega
/-- The word itself, at each letter. -/
def lt (s : List Int) (i : Nat) : Int := s.getD i 0
theorem cmpL_neg_iff : ∀ (u v : List Int), v.length < u.length → (cmpL u v < 0 ↔ ∃ d, d < v.length ∧ (∀ e, e < d → lt u e = lt v e) ∧ lt u d < lt v d)
  | [], v, h => by simp at h
  | a :: u, [], h => by simp [cmpL]
  | a :: u, b :: v, h => by
    have ih := cmpL_neg_iff u v (by simpa using h)
    rw [cmpL]
    rcases Int.lt_trichotomy a b with c | c | c
    · rw [if_pos c]
      exact ⟨fun _ => ⟨0, by simp, fun e he => by omega, c⟩, fun _ => by omega⟩
    · subst c
      rw [if_neg (by omega), if_neg (by omega), ih]
      constructor
      · rintro ⟨d, h1, h2, h3⟩
        refine ⟨d + 1, by simpa using h1, fun e he => ?_, h3⟩
        cases e with
        | zero => rfl
        | succ e => exact h2 e (by omega)
      · rintro ⟨d, h1, h2, h3⟩
        cases d with
        | zero => exact absurd h3 (by simp [lt])
        | succ d => exact ⟨d, by simpa using h1, fun e he => h2 (e + 1) (by omega), h3⟩
    · rw [if_neg (by omega), if_pos c]
      refine ⟨fun h => by omega, ?_⟩
      rintro ⟨d, h1, h2, h3⟩
      cases d with
      | zero => have : a < b := h3; omega
      | succ d => have : a = b := h2 0 (by omega); omega
theorem lt_drop (s : List Int) (a i : Nat) : lt (s.drop a) i = lt s (a + i) := by simp [lt, List.getD_eq_getElem?_getD]
theorem lt_take {s : List Int} {a i : Nat} (h : i < a) : lt (s.take a) i = lt s i := by simp [lt, List.getD_eq_getElem?_getD, h]
theorem lt_rd {s : List Int} {i : Int} : rd s i = lt s i.toNat := rfl
/-- Is a text less than all its endings? -/
def LynB (s : List Int) : Bool := !s.isEmpty && (List.range s.length).all fun r => Nat.beq r 0 || decide (cmpL s (s.drop r) < 0)
theorem LynB_iff (s : List Int) : LynB s = true ↔ 0 < s.length ∧ ∀ r : Nat, 0 < r → r < s.length → cmpL s (s.drop r) < 0 := by
  unfold LynB
  rw [Bool.and_eq_true, List.all_eq_true]
  have e : (!s.isEmpty) = true ↔ 0 < s.length := by cases s <;> simp
  rw [e]
  refine and_congr_right fun _ => ⟨fun h r h0 hr => ?_, fun h r hr => ?_⟩
  · have := h r (List.mem_range.2 hr)
    rw [Bool.or_eq_true, decide_eq_true_iff] at this
    rcases this with a | a
    · have := Nat.eq_of_beq_eq_true a; omega
    · exact a
  · rw [Bool.or_eq_true, decide_eq_true_iff]
    rcases Nat.eq_zero_or_pos r with a | a
    · left; subst a; rfl
    · exact .inr (h r a (List.mem_range.1 hr))
theorem LynB_Lyn (s : List Int) (a p : Nat) (h : a + p ≤ s.length) : LynB ((s.drop a).take p) = true ↔ Lyn (fun i => lt s (a + i)) p := by
  have hl : ((s.drop a).take p).length = p := by rw [List.length_take, List.length_drop]; omega
  rw [LynB_iff, hl]
  unfold Lyn
  refine and_congr_right fun _ => forall_congr' fun r => forall_congr' fun h0 => forall_congr' fun hr => ?_
  rw [cmpL_neg_iff _ _ (by rw [List.length_drop, hl]; omega), List.length_drop, hl]
  constructor
  · rintro ⟨d, h1, h2, h3⟩
    refine ⟨d, by omega, fun e he => ?_, ?_⟩
    · have := h2 e he
      rwa [lt_drop, lt_take (by omega), lt_take (by omega), lt_drop, lt_drop] at this
    · rwa [lt_drop, lt_take (by omega), lt_take (by omega), lt_drop, lt_drop] at h3
  · rintro ⟨d, h1, h2, h3⟩
    refine ⟨d, by omega, fun e he => ?_, ?_⟩
    · rw [lt_drop, lt_take (by omega), lt_take (by omega), lt_drop, lt_drop]; exact h2 e he
    · rw [lt_drop, lt_take (by omega), lt_take (by omega), lt_drop, lt_drop]; exact h3
/-- The longest beginning that is less than all its endings: from n down. -/
def lynLen (s : List Int) : Nat → Nat
  | 0 => 0
  | n + 1 => if LynB (s.take (n + 1)) then n + 1 else lynLen s n
theorem lynLen_eq {s : List Int} {p : Nat} (h : LynB (s.take p) = true) : ∀ n, p ≤ n → (∀ m, p < m → m ≤ n → LynB (s.take m) = false) → lynLen s n = p
  | 0, hp, _ => by unfold lynLen; omega
  | n + 1, hp, hn => by
    unfold lynLen
    rcases Nat.lt_or_ge p (n + 1) with a | a
    · rw [hn (n + 1) a (Nat.le_refl _)]
      simp only [Bool.false_eq_true, if_false]
      exact lynLen_eq h n (by omega) fun m h1 h2 => hn m h1 (by omega)
    · have : p = n + 1 := by omega
      subst this
      rw [h, if_pos rfl]
theorem lynB_one (s : List Int) (h : 0 < s.length) : LynB (s.take 1) = true := by
  cases s with
  | nil => simp at h
  | cons a s => rfl
theorem lynLen_pos {s : List Int} (h : 0 < s.length) : ∀ n, 0 < n → 0 < lynLen s n
  | n + 1, _ => by
    unfold lynLen
    split
    · omega
    · rename_i hh
      cases n with
      | zero => exact absurd (lynB_one s h) hh
      | succ n => exact lynLen_pos h (n + 1) (by omega)
theorem lynLen_le (s : List Int) : ∀ n, lynLen s n ≤ n
  | 0 => Nat.le_refl _
  | n + 1 => by
    unfold lynLen
    split
    · omega
    · have := lynLen_le s n; omega
/-- How long the texts are that a text falls into. -/
def facs : Nat → List Int → List Int
  | 0, _ => []
  | f + 1, s => if s.isEmpty then [] else (lynLen s s.length : Int) :: facs f (s.drop (lynLen s s.length))
def facL (s : List Int) : List Int := facs s.length s
theorem facs_fuel : ∀ (f g : Nat) (s : List Int), s.length ≤ f → s.length ≤ g → facs f s = facs g s
  | 0, g, s, h, _ => by
    have : s = [] := List.length_eq_zero_iff.1 (by omega)
    subst this
    cases g <;> rfl
  | f + 1, 0, s, _, h => by
    have : s = [] := List.length_eq_zero_iff.1 (by omega)
    subst this
    rfl
  | f + 1, g + 1, s, h1, h2 => by
    unfold facs
    cases s with
    | nil => rfl
    | cons a s =>
      simp only [List.isEmpty_cons, Bool.false_eq_true, if_false]
      have := lynLen_pos (s := a :: s) (by simp) (a :: s).length (by simp)
      rw [facs_fuel f g _ (by rw [List.length_drop]; omega) (by rw [List.length_drop]; omega)]
theorem facL_nil {s : List Int} (h : s.length = 0) : facL s = [] := by
  have : s = [] := List.length_eq_zero_iff.1 h
  subst this
  rfl
theorem facL_cons {s : List Int} (h : 0 < s.length) : facL s = (lynLen s s.length : Int) :: facL (s.drop (lynLen s s.length)) := by
  unfold facL
  cases s with
  | nil => simp at h
  | cons a s =>
    rw [show (a :: s).length = s.length + 1 from rfl, facs]
    simp only [List.isEmpty_cons, Bool.false_eq_true, if_false]
    have := lynLen_pos (s := a :: s) (by simp) (a :: s).length (by simp)
    rw [show s.length + 1 = (a :: s).length from rfl]
    congr 1
    exact facs_fuel _ _ _ (by rw [List.length_drop]; simp only [List.length_cons] at *; omega) (Nat.le_refl _)
/-- Where the walk of Duval's stands: p letters are the longest beginning of what is left. -/
theorem duval_len {s : List Int} {a p j : Nat} (hL : Lyn (fun i => lt s (a + i)) p) (hper : Perj (fun i => lt s (a + i)) p j) (hpj : p ≤ j) (haj : a + j ≤ s.length) (hstop : a + j < s.length → lt s (a + j) < lt s (a + j - p)) : lynLen (s.drop a) (s.drop a).length = p := by
  have hp := hL.1
  refine lynLen_eq ((LynB_Lyn s a p (by omega)).2 hL) _ (by rw [List.length_drop]; omega) fun m h1 h2 => ?_
  rw [List.length_drop] at h2
  cases hb : LynB ((s.drop a).take m) with
  | false => rfl
  | true =>
    exact absurd ((LynB_Lyn s a m (by omega)).1 hb) (duval_max (f := fun i => lt s (a + i)) (n := s.length - a) hp hper hpj (fun h => by rw [show a + (j - p) = a + j - p by omega]; exact hstop (by omega)) h1 h2)
/-- The next word over, the period goes on. -/
theorem Lyn.over {s : List Int} {a p j : Nat} (hL : Lyn (fun i => lt s (a + i)) p) (hper : Perj (fun i => lt s (a + i)) p j) (hpj : p + p ≤ j) : Lyn (fun i => lt s (a + p + i)) p := by
  refine ⟨hL.1, fun r h0 hr => ?_⟩
  obtain ⟨d, h1, h2, h3⟩ := hL.2 r h0 hr
  have e : ∀ i, i < p → lt s (a + p + i) = lt s (a + i) := fun i hi => by
    have := hper i (by omega)
    rw [show a + p + i = a + (i + p) by omega]; exact this
  refine ⟨d, h1, fun q hq => ?_, ?_⟩
  · simp only at h2 ⊢
    rw [e q (by omega), e (r + q) (by omega)]; exact h2 q hq
  · simp only at h3 ⊢
    rw [e d (by omega), e (r + d) (by omega)]; exact h3
theorem Perj.over {s : List Int} {a p j : Nat} (hper : Perj (fun i => lt s (a + i)) p j) (hpj : p ≤ j) : Perj (fun i => lt s (a + p + i)) p (j - p) := by
  intro i hi
  have := hper (i + p) (by omega)
  simp only at this ⊢
  rw [show a + p + (i + p) = a + (i + p + p) by omega, show a + p + i = a + (i + p) by omega]
  exact this
theorem lyn_one (f : Nat → Int) : Lyn f 1 := ⟨by omega, fun r h0 hr => by omega⟩
theorem perj_one (f : Nat → Int) : Perj f 1 1 := fun i hi => by omega
theorem perj_self (f : Nat → Int) (p : Nat) : Perj f p p := fun i hi => by omega
theorem Perj.snoc {f : Nat → Int} {p j : Nat} (h : Perj f p j) (hpj : p ≤ j) (he : f j = f (j - p)) : Perj f p (j + 1) := by
  intro i hi
  rcases Nat.lt_or_ge (i + p) j with a | a
  · exact h i a
  · rw [show i + p = j by omega, he]; congr 1; omega
/-! Duval's walk, told in the program's own numbers: the word begins at a; i is read again, j is read. -/
section
variable {s : List Int} {a i j b : Int}
def LynAt (s : List Int) (a p : Int) : Prop := Lyn (fun e => lt s (a.toNat + e)) p.toNat
def PerAt (s : List Int) (a p n : Int) : Prop := Perj (fun e => lt s (a.toNat + e)) p.toNat n.toNat
theorem duval_start : LynAt s a (a + 1 - a) ∧ PerAt s a (a + 1 - a) (a + 1 - a) := by
  unfold LynAt PerAt
  rw [show (a + 1 - a).toNat = 1 by omega]
  exact ⟨lyn_one _, perj_one _⟩
theorem duval_up (h0 : 0 ≤ a) (hai : a ≤ i) (hij : i < j) (hL : LynAt s a (j - i)) (hP : PerAt s a (j - i) (j - a)) (hlt : rd s i < rd s j) : LynAt s a (j + 1 - a) ∧ PerAt s a (j + 1 - a) (j + 1 - a) := by
  refine ⟨?_, perj_self _ _⟩
  unfold LynAt
  have := duval_lt hL hP (by omega) (by
    show lt s (a.toNat + ((j - a).toNat - (j - i).toNat)) < lt s (a.toNat + (j - a).toNat)
    rw [show a.toNat + ((j - a).toNat - (j - i).toNat) = i.toNat by omega, show a.toNat + (j - a).toNat = j.toNat by omega]
    exact hlt)
  rwa [show (j - a).toNat + 1 = (j + 1 - a).toNat by omega] at this
theorem duval_eq (h0 : 0 ≤ a) (hai : a ≤ i) (hij : i < j) (hL : LynAt s a (j - i)) (hP : PerAt s a (j - i) (j - a)) (he : rd s i ≤ rd s j) (hn : ¬ rd s i < rd s j) : LynAt s a (j + 1 - (i + 1)) ∧ PerAt s a (j + 1 - (i + 1)) (j + 1 - a) := by
  rw [show j + 1 - (i + 1) = j - i by omega]
  refine ⟨hL, ?_⟩
  unfold PerAt
  rw [show (j + 1 - a).toNat = (j - a).toNat + 1 by omega]
  refine Perj.snoc hP (by omega) ?_
  show lt s (a.toNat + (j - a).toNat) = lt s (a.toNat + ((j - a).toNat - (j - i).toNat))
  rw [show a.toNat + ((j - a).toNat - (j - i).toNat) = i.toNat by omega, show a.toNat + (j - a).toNat = j.toNat by omega]
  have : rd s i = rd s j := by omega
  exact this.symm
theorem duval_out (h0 : 0 ≤ b) (hbi : b ≤ i) (hij : i < j) (hj : j ≤ s.length) (hL : LynAt s b (j - i)) (hP : PerAt s b (j - i) (j - b)) (hstop : ¬ (j < s.length ∧ rd s i ≤ rd s j)) : facL (s.drop b.toNat) = (j - i) :: facL (s.drop (b + (j - i)).toNat) := by
  have hlen := duval_len hL hP (by omega) (by omega) fun h => by
    rw [show b.toNat + (j - b).toNat = j.toNat by omega, show j.toNat - (j - i).toNat = i.toNat by omega]
    have : ¬ rd s i ≤ rd s j := fun hh => hstop ⟨by omega, hh⟩
    have : rd s j < rd s i := by omega
    exact this
  have hpos : 0 < (s.drop b.toNat).length := by rw [List.length_drop]; omega
  rw [facL_cons hpos, hlen, List.drop_drop]
  rw [show ((j - i).toNat : Int) = j - i by omega, show b.toNat + (j - i).toNat = (b + (j - i)).toNat by omega]
theorem duval_over (h0 : 0 ≤ b) (hij : i < j) (hL : LynAt s b (j - i)) (hP : PerAt s b (j - i) (j - b)) (h : b + (j - i) ≤ i) : LynAt s (b + (j - i)) (j - i) ∧ PerAt s (b + (j - i)) (j - i) (j - (b + (j - i))) := by
  unfold LynAt PerAt
  rw [show (b + (j - i)).toNat = b.toNat + (j - i).toNat by omega, show (j - (b + (j - i))).toNat = (j - b).toNat - (j - i).toNat by omega]
  exact ⟨Lyn.over hL hP (by omega), Perj.over hP (by omega)⟩
end
theorem lynLen_skip {s : List Int} {n : Int} (h1 : 1 ≤ n) (hn : n ≤ s.length) (h : ¬ LynB (s.take n.toNat) = true) : 1 ≤ n - 1 ∧ lynLen s (n - 1).toNat = lynLen s n.toNat := by
  obtain ⟨m, rfl⟩ : ∃ m : Nat, n = m + 1 := ⟨(n - 1).toNat, by omega⟩
  have e : ((m : Int) + 1).toNat = m + 1 := by omega
  rw [e] at h
  rw [e, show ((m : Int) + 1 - 1).toNat = m by omega, lynLen, if_neg h]
  refine ⟨?_, rfl⟩
  rcases Nat.eq_zero_or_pos m with z | z
  · subst z
    exact absurd (lynB_one s (by omega)) h
  · omega
theorem lynLen_hit {s : List Int} {n : Int} (h1 : 1 ≤ n) (h : LynB (s.take n.toNat) = true) : (lynLen s n.toNat : Int) = n := by
  obtain ⟨m, rfl⟩ : ∃ m : Nat, n = m + 1 := ⟨(n - 1).toNat, by omega⟩
  have e : ((m : Int) + 1).toNat = m + 1 := by omega
  rw [e] at h
  rw [e, lynLen, if_pos h]
  omega
end Go.Pure
