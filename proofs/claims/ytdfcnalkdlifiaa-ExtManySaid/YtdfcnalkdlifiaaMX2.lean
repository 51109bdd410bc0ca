/- Several texts of our own in one: Q12, Q36, E25, E15, N1, E18, E21, E24, E26, E16, Q11, Q13, Q15, Q37, E27, F1, N2, S1, F6, E22, E28, S3, S4, N3, E23, E29. -/
import Derived.Lib.BytesEntry
import Derived.Lib.AppendZeros
import Derived.Lib.MakeNoZero
import Derived.Laws.Externs
import Derived.RangeFuncRecord
import Derived.RangeFuncSeq
import Derived.RangeFuncCalls
import Derived.RangeFuncKeeps
import Derived.RangeFuncBox
import Derived.RangeFuncNested
import Derived.Shelf.SlSortCmp.Kit1
import Derived.Ground.SlsfProg
import Derived.Shelf.SlSortCmp.WholeK
import Derived.Test.YtdfcnalkdlifiaaProg
import Derived.Laws.CopyRow
import Derived.Laws.IdiomCopy
import Derived.Shelf.Bits.Mul64
import Derived.Shelf.SlSortCmp.NoneTotal
import Derived.Test.YtdfcnalkdlifiaaMX1
/-! ## Q12 -/
namespace Go.Pure
open Go Go.Eng
/-- A word told by its letters is less than all its endings. -/
def Lyn (f : Nat → Int) (p : Nat) : Prop := 0 < p ∧ ∀ r, 0 < r → r < p → ∃ d, r + d < p ∧ (∀ e, e < d → f e = f (r + e)) ∧ f d < f (r + d)
def Perj (f : Nat → Int) (p j : Nat) : Prop := ∀ i, i + p < j → f (i + p) = f i
/-- The word itself, at each letter. -/
def lt (s : List Int) (i : Nat) : Int := s.getD i 0
theorem cmpL_neg_iff : ∀ (u v : List Int), v.length < u.length → (cmpL u v < 0 ↔ ∃ d, d < v.length ∧ (∀ e, e < d → lt u e = lt v e) ∧ lt u d < lt v d)
  | [], v, h => by simp at h
  | a :: u, [], h => by simp [cmpL]
  | a :: u, b :: v, h => by
    have ih := cmpL_neg_iff u v (by simpa using h)
    rw [cmpL]
    rcases Int.lt_trichotomy a b with c | c | c
    · rw [if_pos c]
      exact ⟨fun _ => ⟨0, by simp, fun e he => by omega, c⟩, fun _ => by omega⟩
    · subst c
      rw [if_neg (by omega), if_neg (by omega), ih]
      constructor
      · rintro ⟨d, h1, h2, h3⟩
        refine ⟨d + 1, by simpa using h1, fun e he => ?_, h3⟩
        cases e with
        | zero => rfl
        | succ e => exact h2 e (by omega)
      · rintro ⟨d, h1, h2, h3⟩
        cases d with
        | zero => exact absurd h3 (by simp [lt])
        | succ d => exact ⟨d, by simpa using h1, fun e he => h2 (e + 1) (by omega), h3⟩
    · rw [if_neg (by omega), if_pos c]
      refine ⟨fun h => by omega, ?_⟩
      rintro ⟨d, h1, h2, h3⟩
      cases d with
      | zero => have : a < b := h3; omega
      | succ d => have : a = b := h2 0 (by omega); omega
theorem lt_drop (s : List Int) (a i : Nat) : lt (s.drop a) i = lt s (a + i) := by simp [lt, List.getD_eq_getElem?_getD]
theorem lt_take {s : List Int} {a i : Nat} (h : i < a) : lt (s.take a) i = lt s i := by simp [lt, List.getD_eq_getElem?_getD, h]
theorem lt_rd {s : List Int} {i : Int} : rd s i = lt s i.toNat := rfl
/-- Is a text less than all its endings? -/
def LynB (s : List Int) : Bool := !s.isEmpty && (List.range s.length).all fun r => Nat.beq r 0 || decide (cmpL s (s.drop r) < 0)
theorem LynB_iff (s : List Int) : LynB s = true ↔ 0 < s.length ∧ ∀ r : Nat, 0 < r → r < s.length → cmpL s (s.drop r) < 0 := by
  unfold LynB
  rw [Bool.and_eq_true, List.all_eq_true]
  have e : (!s.isEmpty) = true ↔ 0 < s.length := by cases s <;> simp
  rw [e]
  refine and_congr_right fun _ => ⟨fun h r h0 hr => ?_, fun h r hr => ?_⟩
  · have := h r (List.mem_range.2 hr)
    rw [Bool.or_eq_true, decide_eq_true_iff] at this
    rcases this with a | a
    · have := Nat.eq_of_beq_eq_true a; omega
    · exact a
  · rw [Bool.or_eq_true, decide_eq_true_iff]
    rcases Nat.eq_zero_or_pos r with a | a
    · left; subst a; rfl
    · exact .inr (h r a (List.mem_range.1 hr))
/-- The longest beginning that is less than all its endings: from n down. -/
def lynLen (s : List Int) : Nat → Nat
  | 0 => 0
  | n + 1 => if LynB (s.take (n + 1)) then n + 1 else lynLen s n
theorem lynLen_eq {s : List Int} {p : Nat} (h : LynB (s.take p) = true) : ∀ n, p ≤ n → (∀ m, p < m → m ≤ n → LynB (s.take m) = false) → lynLen s n = p
  | 0, hp, _ => by unfold lynLen; omega
  | n + 1, hp, hn => by
    unfold lynLen
    rcases Nat.lt_or_ge p (n + 1) with a | a
    · rw [hn (n + 1) a (Nat.le_refl _)]
      simp only [Bool.false_eq_true, if_false]
      exact lynLen_eq h n (by omega) fun m h1 h2 => hn m h1 (by omega)
    · have : p = n + 1 := by omega
      subst this
      rw [h, if_pos rfl]
theorem lynB_one (s : List Int) (h : 0 < s.length) : LynB (s.take 1) = true := by
  cases s with
  | nil => simp at h
  | cons a s => rfl
theorem lynLen_pos {s : List Int} (h : 0 < s.length) : ∀ n, 0 < n → 0 < lynLen s n
  | n + 1, _ => by
    unfold lynLen
    split
    · omega
    · rename_i hh
      cases n with
      | zero => exact absurd (lynB_one s h) hh
      | succ n => exact lynLen_pos h (n + 1) (by omega)
/-- How long the texts are that a text falls into. -/
def facs : Nat → List Int → List Int
  | 0, _ => []
  | f + 1, s => if s.isEmpty then [] else (lynLen s s.length : Int) :: facs f (s.drop (lynLen s s.length))
def facL (s : List Int) : List Int := facs s.length s
theorem facs_fuel : ∀ (f g : Nat) (s : List Int), s.length ≤ f → s.length ≤ g → facs f s = facs g s
  | 0, g, s, h, _ => by
    have : s = [] := List.length_eq_zero_iff.1 (by omega)
    subst this
    cases g <;> rfl
  | f + 1, 0, s, _, h => by
    have : s = [] := List.length_eq_zero_iff.1 (by omega)
    subst this
    rfl
  | f + 1, g + 1, s, h1, h2 => by
    unfold facs
    cases s with
    | nil => rfl
    | cons a s =>
      simp only [List.isEmpty_cons, Bool.false_eq_true, if_false]
      have := lynLen_pos (s := a :: s) (by simp) (a :: s).length (by simp)
      rw [facs_fuel f g _ (by rw [List.length_drop]; omega) (by rw [List.length_drop]; omega)]
theorem facL_nil {s : List Int} (h : s.length = 0) : facL s = [] := by
  have : s = [] := List.length_eq_zero_iff.1 h
  subst this
  rfl
theorem facL_cons {s : List Int} (h : 0 < s.length) : facL s = (lynLen s s.length : Int) :: facL (s.drop (lynLen s s.length)) := by
  unfold facL
  cases s with
  | nil => simp at h
  | cons a s =>
    rw [show (a :: s).length = s.length + 1 from rfl, facs]
    simp only [List.isEmpty_cons, Bool.false_eq_true, if_false]
    have := lynLen_pos (s := a :: s) (by simp) (a :: s).length (by simp)
    rw [show s.length + 1 = (a :: s).length from rfl]
    congr 1
    exact facs_fuel _ _ _ (by rw [List.length_drop]; simp only [List.length_cons] at *; omega) (Nat.le_refl _)
section
variable {s : List Int} {a i j b : Int}
def LynAt (s : List Int) (a p : Int) : Prop := Lyn (fun e => lt s (a.toNat + e)) p.toNat
def PerAt (s : List Int) (a p n : Int) : Prop := Perj (fun e => lt s (a.toNat + e)) p.toNat n.toNat
end
end Go.Pure

/-! ## Q36 -/
namespace Go.Pure
open Go Go.Eng
theorem cmpL_same : ∀ {a b : List Int}, a.length = b.length → (cmpL a b < 0 ↔ ∃ d, d < a.length ∧ (∀ e, e < d → lt a e = lt b e) ∧ lt a d < lt b d)
  | [], [], _ => by simp [cmpL]
  | x :: a, y :: b, h => by
    have ih := cmpL_same (a := a) (b := b) (by simpa using h)
    rw [cmpL]
    rcases Int.lt_trichotomy x y with c | c | c
    · rw [if_pos c]
      exact ⟨fun _ => ⟨0, by simp, fun e he => by omega, c⟩, fun _ => by omega⟩
    · subst c
      rw [if_neg (by omega), if_neg (by omega), ih]
      constructor
      · rintro ⟨d, h1, h2, h3⟩
        refine ⟨d + 1, by simpa using h1, fun e he => ?_, h3⟩
        cases e with
        | zero => rfl
        | succ e => exact h2 e (by omega)
      · rintro ⟨d, h1, h2, h3⟩
        cases d with
        | zero => exact absurd h3 (by simp [lt])
        | succ d => exact ⟨d, by simpa using h1, fun e he => h2 (e + 1) (by omega), h3⟩
    · rw [if_neg (by omega), if_pos c]
      refine ⟨fun h => by omega, ?_⟩
      rintro ⟨d, h1, h2, h3⟩
      cases d with
      | zero => have : x < y := h3; omega
      | succ d => have : x = y := h2 0 (by omega); omega
section
variable {s : List Int}
/-- A rotation, without end. -/
def rot (s : List Int) (r d : Nat) : Int := om s (r + d)
def turnS (s : List Int) (r : Int) : List Int := s.drop r.toNat ++ s.take r.toNat
theorem turnS_len (s : List Int) (r : Int) : (turnS s r).length = s.length := by unfold turnS; rw [List.length_append, List.length_drop, List.length_take]; omega
theorem turnS_at {r d : Nat} (hr : r ≤ s.length) (hd : d < s.length) : lt (turnS s r) d = rot s r d := by
  unfold turnS lt rot om
  rw [Int.toNat_natCast]
  rcases Nat.lt_or_ge (r + d) s.length with g | g
  · rw [List.getD_eq_getElem?_getD, List.getElem?_append_left (by rw [List.length_drop]; omega), List.getElem?_drop, Nat.mod_eq_of_lt g, ← List.getD_eq_getElem?_getD]
  · rw [List.getD_eq_getElem?_getD, List.getElem?_append_right (by rw [List.length_drop]; omega), List.length_drop, List.getElem?_take_of_lt (by omega), show (r + d) % s.length = d - (s.length - r) by rw [Nat.mod_eq_sub_mod g, Nat.mod_eq_of_lt (by omega)]; omega, ← List.getD_eq_getElem?_getD]
theorem rot_per (r : Nat) : Per (rot s r) s.length := fun d => by
  unfold rot
  rw [← Nat.add_assoc]
  exact om_per s _
theorem rot_mod (r : Nat) : rot s (r % s.length) = rot s r := by
  funext d
  unfold rot om
  rw [Nat.mod_add_mod]
theorem rot_same {r q : Nat} (hn : 0 < s.length) (h : ∀ d, d < s.length → rot s r d = rot s q d) : rot s r = rot s q := by
  funext d
  rw [← (rot_per r).mod d, ← (rot_per q).mod d]
  exact h _ (Nat.mod_lt _ hn)
theorem rot_lt {r q : Nat} (hr : r ≤ s.length) (hq : q ≤ s.length) : cmpL (turnS s r) (turnS s q) < 0 ↔ Lt (rot s r) (rot s q) := by
  rw [cmpL_same (by rw [turnS_len, turnS_len]), turnS_len]
  constructor
  · rintro ⟨d, h1, h2, h3⟩
    refine ⟨d, fun e he => ?_, ?_⟩
    · rw [← turnS_at hr (by omega), ← turnS_at hq (by omega)]; exact h2 e he
    · rw [← turnS_at hr h1, ← turnS_at hq h1]; exact h3
  · rintro ⟨d, h2, h3⟩
    rcases Nat.lt_or_ge d s.length with g | g
    · refine ⟨d, g, fun e he => ?_, ?_⟩
      · rw [turnS_at hr (by omega), turnS_at hq (by omega)]; exact h2 e he
      · rw [turnS_at hr g, turnS_at hq g]; exact h3
    · exfalso
      rcases Nat.eq_zero_or_pos s.length with z | z
      · have : ∀ r d, rot s r d = 0 := fun r d => by
          unfold rot om
          rw [List.eq_nil_of_length_eq_zero z]; rfl
        rw [this, this] at h3; omega
      · have := rot_same z fun e he => h2 e (by omega)
        rw [this] at h3; omega
/-- The first rotation that is not more than any. -/
structure FL (s : List Int) (b : Nat) : Prop where
  lt : b < s.length
  le : ∀ r, r < s.length → ¬ Lt (rot s r) (rot s b)
  first : ∀ r, r < b → Lt (rot s b) (rot s r)
theorem FL.any {b : Nat} (h : FL s b) (r : Nat) : ¬ Lt (rot s r) (rot s b) := by
  rw [← rot_mod r]
  exact h.le _ (Nat.mod_lt _ (by have := h.lt; omega))
theorem FL.one {b c : Nat} (h : FL s b) (g : FL s c) : b = c := by
  rcases Nat.lt_trichotomy b c with a | a | a
  · exact absurd (g.first b a) (h.any c)
  · exact a
  · exact absurd (h.first c a) (g.any b)
/-- As it is found one by one. -/
def lrotK (s : List Int) : Nat → Nat
  | 0 => 0
  | r + 1 => if cmpL (turnS s r) (turnS s (lrotK s r)) < 0 then r else lrotK s r
theorem lrotK_ok : ∀ n : Nat, 0 < n → n ≤ s.length → lrotK s n < n ∧ (∀ r, r < n → ¬ Lt (rot s r) (rot s (lrotK s n))) ∧ ∀ r, r < lrotK s n → Lt (rot s (lrotK s n)) (rot s r)
  | 1, _, h => by
    have e : lrotK s 1 = 0 := by
      rw [lrotK, lrotK]
      split <;> rfl
    rw [e]
    exact ⟨by omega, fun r hr => by obtain rfl : r = 0 := (by omega); exact fun h => h.asymm h, fun r hr => by omega⟩
  | n + 2, _, h => by
    have ih := lrotK_ok (n + 1) (by omega) (by omega)
    rw [lrotK]
    split
    · rename_i c
      rw [rot_lt (by omega) (by omega)] at c
      refine ⟨by omega, fun r hr => ?_, fun r hr => ?_⟩
      · rcases Nat.lt_or_ge r (n + 1) with g | g
        · exact fun hlt => ih.2.1 r g (hlt.trans c)
        · obtain rfl : r = n + 1 := by omega
          exact fun h => h.asymm h
      · rcases lt_tri (rot s (n + 1)) (rot s r) with a | a | a
        · exact a
        · exact absurd (by rw [← funext a]; exact c) (ih.2.1 r hr)
        · exact absurd (a.trans c) (ih.2.1 r hr)
    · rename_i c
      rw [rot_lt (by omega) (by omega)] at c
      refine ⟨by omega, fun r hr => ?_, ih.2.2⟩
      rcases Nat.lt_or_ge r (n + 1) with g | g
      · exact ih.2.1 r g
      · obtain rfl : r = n + 1 := by omega
        exact c
def lrot (s : List Int) : Int := lrotK s s.length
theorem lrot_FL (hn : 0 < s.length) : FL s (lrotK s s.length) := by
  have h := lrotK_ok (s := s) s.length hn (Nat.le_refl _)
  exact ⟨h.1, h.2.1, h.2.2⟩
theorem lrot_bd (s : List Int) : 0 ≤ lrot s ∧ lrot s ≤ s.length ∧ (0 < s.length → lrot s < s.length) := by
  unfold lrot
  rcases Nat.eq_zero_or_pos s.length with z | z
  · rw [z]; exact ⟨by omega, by show ((0 : Nat) : Int) ≤ _; omega, fun h => by omega⟩
  · have := (lrot_FL z).lt
    omega
/-- Two places, and how much they have alike. -/
structure LA (s : List Int) (b : Nat) (i j k : Int) : Prop where
  i0 : 0 ≤ i
  j0 : 0 ≤ j
  k0 : 0 ≤ k
  ne : i ≠ j
  agr : ∀ e : Nat, (e : Int) < k → rot s i.toNat e = rot s j.toNat e
  hb : (b : Int) = i ∨ (b : Int) = j ∨ (i < b ∧ j < b)
theorem LA.init (b : Nat) : LA s b 0 1 0 := ⟨by omega, by omega, by omega, by omega, fun e he => by omega, by omega⟩
variable {b : Nat} {i j k : Int}
theorem LA.swap (h : LA s b i j k) : LA s b j i k := ⟨h.j0, h.i0, h.k0, h.ne.symm, fun e he => (h.agr e he).symm, by have := h.hb; omega⟩
theorem LA.eq (h : LA s b i j k) (he : rot s i.toNat k.toNat = rot s j.toNat k.toNat) : LA s b i j (k + 1) :=
  ⟨h.i0, h.j0, by have := h.k0; omega, h.ne, fun e he' => by
    rcases Int.lt_or_le e k with g | g
    · exact h.agr e g
    · have := h.k0
      obtain rfl : e = k.toNat := by omega
      exact he, h.hb⟩
theorem LA.out (h : LA s b i j k) (fl : FL s b) (hgt : rot s j.toNat k.toNat < rot s i.toNat k.toNat) : ¬ (i ≤ b ∧ (b : Int) ≤ i + k) := fun hc => by
  have i0 := h.i0
  have k0 := h.k0
  obtain ⟨t, ht⟩ : ∃ t : Nat, b = i.toNat + t := ⟨b - i.toNat, by omega⟩
  refine fl.any (j.toNat + t) ⟨k.toNat - t, fun e he => ?_, ?_⟩
  · have := h.agr (t + e) (by omega)
    unfold rot at this ⊢
    rw [ht, Nat.add_assoc, Nat.add_assoc]
    exact this.symm
  · unfold rot at hgt ⊢
    rw [ht, Nat.add_assoc, Nat.add_assoc, show t + (k.toNat - t) = k.toNat by omega]
    exact hgt
theorem LA.gt (h : LA s b i j k) (fl : FL s b) (hgt : rot s j.toNat k.toNat < rot s i.toNat k.toNat) : (i + (k + 1) ≠ j → LA s b (i + (k + 1)) j 0) ∧ (i + (k + 1) = j → LA s b (i + (k + 1)) (j + 1) 0) := by
  have ho := h.out fl hgt
  have hb := h.hb
  have i0 := h.i0
  have j0 := h.j0
  have k0 := h.k0
  exact ⟨fun hne => ⟨by omega, j0, by omega, hne, fun e he => by omega, by omega⟩, fun he => ⟨by omega, by omega, by omega, by omega, fun e he => by omega, by omega⟩⟩
theorem LA.lt (h : LA s b i j k) (fl : FL s b) (hlt : rot s i.toNat k.toNat < rot s j.toNat k.toNat) : (i ≠ j + (k + 1) → LA s b i (j + (k + 1)) 0) ∧ (i = j + (k + 1) → LA s b i (j + (k + 1) + 1) 0) := by
  have ho := h.swap.out fl hlt
  have hb := h.hb
  have i0 := h.i0
  have j0 := h.j0
  have k0 := h.k0
  exact ⟨fun hne => ⟨i0, by omega, by omega, hne, fun e he => by omega, by omega⟩, fun he => ⟨by omega, by omega, by omega, by omega, fun e he => by omega, by omega⟩⟩
theorem LA.same (h : LA s b i j k) (fl : FL s b) (hn : (s.length : Int) ≤ k) : min i j = b := by
  have i0 := h.i0
  have j0 := h.j0
  have hlt := fl.lt
  have he : rot s i.toNat = rot s j.toNat := rot_same (by omega) fun d hd => h.agr d (by omega)
  have hne := h.ne
  have no : ∀ x : Nat, x < b → rot s x ≠ rot s b := fun x hx e => (fl.first x hx).not_eq fun d => by rw [e]
  rcases h.hb with e | e | ⟨e1, e2⟩
  · rcases Int.lt_or_le j i with g | g
    · exact absurd (by rw [show b = i.toNat by omega]; exact he.symm) (no j.toNat (by omega))
    · omega
  · rcases Int.lt_or_le i j with g | g
    · exact absurd (by rw [show b = j.toNat by omega]; exact he) (no i.toNat (by omega))
    · omega
  · exfalso
    have key : ∀ lo hi : Nat, lo < hi → hi < b → rot s lo = rot s hi → False := fun lo hi h1 h2 e => by
      refine no (lo + (b - hi)) (by omega) ?_
      funext d
      have := congrFun e ((b - hi) + d)
      unfold rot at this ⊢
      rw [Nat.add_assoc, this]
      congr 1
      omega
    rcases Int.lt_or_le i j with g | g
    · exact key i.toNat j.toNat (by omega) (by omega) he
    · exact key j.toNat i.toNat (by omega) (by omega) he.symm
theorem LA.done (h : LA s b i j k) (fl : FL s b) (hc : ¬ (i < s.length ∧ j < s.length ∧ k < s.length)) : min i j = b := by
  have hb := h.hb
  have hlt := fl.lt
  have hne := h.ne
  by_cases hk : (s.length : Int) ≤ k
  · exact h.same fl hk
  · omega
theorem rot_rd {i k : Int} (i0 : 0 ≤ i) (k0 : 0 ≤ k) : rd s ((i + k) % s.length) = rot s i.toNat k.toNat := by
  have := om_rd s (i.toNat + k.toNat)
  rw [show ((i.toNat + k.toNat : Nat) : Int) = i + k by omega] at this
  exact this
end
end Go.Pure

/-! ## E25 -/
namespace Go.Eng
open Go Go.RowKit Go.Pure
section
variable {P : Program} {n : Nd} {B : Nat} {w0 : World} {L : Env} {R : List Row} {ty : TypeId}
/-- A call of a function without a body. -/
theorem a_entry {f : FuncId} {asx : List Operand} {ts : Array TypeId} {vs : List Value} {Post : Value → List Row → Prop} (ha : evs L asx = some vs)
    (hx : ∀ w, Hp B w0 w R → ∃ v w' R', (callFunc f vs.toArray).run P w = .ok (.value v) w' ∧ Hp B w0 w' R' ∧ Post v R') :
    Ac P n B w0 (.call { callee := .value (.func f), args := asx.toArray, argTypes := ts }) ty L R Post := by
  intro a w o K Q ho _ hs hp hk
  have e1 := hs.evs ha
  obtain ⟨v, w', R', hr, hp', hv⟩ := hx w hp
  have hf : a.eval (.func f) = .func (.func f) #[] #[] := hs.ev rfl
  unfold Oper.wp
  simp only [execOp, ho, resolve, hf, Deferred.ofValue, invoke, Sem.run_bind, Sem.run_pure, Result.andThen_ok, List.map_toArray, e1, List.append_toArray, List.nil_append, List.append_nil, hr, Oper.upon]
  exact hk v w' R' hp' hv
theorem cmp_bytes : ∀ {u t : List Int}, ByteL u → ByteL t → Lib.compareBytes (Lib.bytesOf u) (Lib.bytesOf t) = cmpL u t
  | [], [], _, _ => rfl
  | [], _ :: _, _, _ => rfl
  | _ :: _, [], _, _ => rfl
  | x :: u, y :: t, hu, ht => by
    have ih := cmp_bytes (u := u) (t := t) (fun z hz => hu z (List.mem_cons_of_mem _ hz)) fun z hz => ht z (List.mem_cons_of_mem _ hz)
    have hx := hu x (by simp)
    have hy := ht y (by simp)
    have e : ∀ z : Int, 0 ≤ z ∧ z < 256 → ((z.toNat.toUInt8).toNat : Int) = z := fun z hz => by
      rw [Nat.toUInt8, UInt8.toNat_ofNat_of_lt' (by simp [UInt8.size]; omega)]
      omega
    have hlt : ∀ {a b : Int}, 0 ≤ a ∧ a < 256 → 0 ≤ b ∧ b < 256 → (a.toNat.toUInt8 < b.toNat.toUInt8 ↔ a < b) := fun {a b} ha hb => by
      rw [UInt8.lt_iff_toNat_lt]
      have h1 := e a ha
      have h2 := e b hb
      omega
    show (if x.toNat.toUInt8 < y.toNat.toUInt8 then -1 else if y.toNat.toUInt8 < x.toNat.toUInt8 then 1 else Lib.compareBytes (Lib.bytesOf u) (Lib.bytesOf t)) = cmpL (x :: u) (y :: t)
    rw [cmpL, ih]
    by_cases c : x < y
    · rw [if_pos c, if_pos ((hlt hx hy).2 c)]
    · rw [if_neg c, if_neg (fun h => c ((hlt hx hy).1 h))]
      by_cases d : y < x
      · rw [if_pos d, if_pos ((hlt hy hx).2 d)]
      · rw [if_neg d, if_neg (fun h => d ((hlt hy hx).1 h))]
theorem run_bytesOf {w : World} {A : Option Addr} {m c : Nat} {u : List Int} (h : Rd w A m c 1 (ints .u8 u)) : (Extern.Bytes.bytesOf (.slice A m c)).run P w = .ok ⟨(Lib.bytesOf u).toArray⟩ w := by
  have hl := h.lenI
  rcases A with _ | a
  · have h0 : u = [] := by
      cases u with
      | nil => rfl
      | cons y l' => obtain ⟨_, g, _⟩ := h.at_ 0 (.int .u8 y) (by simp [ints]); cases g
    subst h0
    rfl
  · have := Lib.run_loadBytesX (P := P) w u a .empty fun j x hj => by
      obtain ⟨b, e, hc⟩ := h.at_ j (.int .u8 x) (by simp [ints, hj])
      obtain rfl := Option.some.inj e
      exact hc
    rw [← hl] at this
    show (Extern.Bytes.loadBytes a m .empty).run P w = _
    rw [this]
    simp
theorem run_cmp {w : World} {A A2 : Option Addr} {m c m2 c2 : Nat} {u t : List Int} (h : Rd w A m c 1 (ints .u8 u)) (h2 : Rd w A2 m2 c2 1 (ints .u8 t)) (hu : ByteL u) (ht : ByteL t) :
    (Extern.BytealgCompare.compare #[.slice A m c, .slice A2 m2 c2]).run P w = .ok (.int .i64 (cmpL u t)) w := by
  change Sem.run P (do pure (goInt (Extern.BytealgCompare.cmp (← Extern.Bytes.bytesOf (.slice A m c)) (← Extern.Bytes.bytesOf (.slice A2 m2 c2))))) w = _
  simp only [Sem.run_bind, run_bytesOf h, run_bytesOf h2, Result.andThen_ok, Sem.run_pure]
  rw [Lib.cmp_eq, cmp_bytes hu ht]
  rfl
/-- bytealg.Compare. -/
theorem a_cmp {f : FuncId} {fn : Func} {x y : Operand} {ts : Array TypeId} {A A2 : Option Addr} {m c m2 c2 : Nat} {u t : List Int} (hf : P.funcs[f]? = some fn) (hname : (fn.name == "runtime.NumGoroutine") = false) (hb : fn.body.isNone = true) (hn : Extern.findNext fn = none) (he : Extern.find fn = some Extern.BytealgCompare.compare)
    (hx : ev L x = some (.slice A m c)) (hy : ev L y = some (.slice A2 m2 c2)) (h : RdC B w0 R A m c 1 (ints .u8 u)) (h2 : RdC B w0 R A2 m2 c2 1 (ints .u8 t)) (hu : ByteL u) (ht : ByteL t) :
    Ac P n B w0 (.call { callee := .value (.func f), args := [x, y].toArray, argTypes := ts }) ty L R (fun v R' => v = .int .i64 (cmpL u t) ∧ R' = R) :=
  a_entry (vs := [.slice A m c, .slice A2 m2 c2]) (by simp [evs, hx, hy]) fun w hw => ⟨_, w, R, by
    rw [run_callFunc_extern hf hname hb hn he]
    rw [show [Value.slice A m c, Value.slice A2 m2 c2].toArray = #[.slice A m c, .slice A2 m2 c2] from rfl, run_cmp (h w hw) (h2 w hw) hu ht]
    rfl, hw, rfl, rfl⟩
theorem y_cap {x : Operand} {t e : TypeId} {A : Option Addr} {m c : Nat} (ht : P.underlying t = some (.slice e)) (hx : ev L x = some (.slice A m c)) : Yl P n B w0 (.call { callee := .builtin .cap, args := #[x], argTypes := #[t] }) ty L R (.int .i64 (c : Int)) := by
  intro a w o ho _ hs _
  simp [execOp, ho, resolve, invoke, builtin, Builtin.cap_, run_underlying ht, hs.ev hx, goInt]
theorem y_sliceZ {x z : Operand} {t e : TypeId} {A : Option Addr} {m c sz : Nat} {k2 : IntKind} (ht : P.underlying t = some (.slice e)) (hi : (P.info? e).map (·.size) = some sz) (hx : ev L x = some (.slice A m c)) (hz : ev L z = some (.int k2 0)) :
    Yl P n B w0 (.slice t x none (some z) none) ty L R (.slice A 0 c) := by
  intro a w o ho _ hs hp
  obtain ⟨i0, hi0, hsz0⟩ := Option.map_eq_some_iff.1 hi
  have hel : P.elem t = e := by simp [Program.elem, ht]
  have ht' : P.underlying t = some (.slice (P.elem t)) := by rw [hel]; exact ht
  simp only [execOp, ho, Option.map_some, Option.map_none, hs.ev hx, hs.ev hz, Sem.run_bind, run_sliceAt_slice w t _ _ _ _ ht', run_slice_h w t A m c ht' k2 0 (Int.le_refl 0) (by omega), hel]
  have : (if c = 0 then A else Option.map (fun x => x.add 0) A) = A := by
    split
    · rfl
    · exact pat_zero A
  simp [sizeOf, typeInfo, hi0, hsz0, sliced, this]
/-- Rows of this many cells asx one of fewer. -/
theorem Row.lies_cut {w : World} {e sz m c : Nat} {A : Option Addr} {xs : List Value} (h : Row.lies B w ⟨e, sz, A, m, c, xs, false⟩) {k : Nat} (hk : k ≤ m) (hA : A ≠ none) : Row.lies B w ⟨e, sz, A, k, c, xs.take (k * sz), false⟩ := by
  have h1 := Row.lies_w h rfl
  have hle : k * sz ≤ m * sz := Nat.mul_le_mul_right _ hk
  unfold Row.lies
  simp only
  obtain ⟨hl, h2⟩ := h1
  simp only at hl h2
  refine ⟨by rw [List.length_take]; omega, ?_⟩
  rcases h2 with ⟨hv, _⟩ | ⟨g, cap, cur, hv, hb, hg, hnc, hcm, hcs, ht⟩
  · simp only [Value.slice.injEq] at hv
    exact absurd hv.1 hA
  · simp only [Value.slice.injEq] at hv
    obtain ⟨rfl, _, rfl⟩ := hv
    refine .inr ⟨g, c, cur, rfl, hb, hg, by omega, hcm, hcs, ?_⟩
    rw [← ht, List.take_take]
    congr 1
    omega
theorem Hp.cut {w : World} {e sz m c : Nat} {A : Option Addr} {xs : List Value} (h : Hp B w0 w (⟨e, sz, A, m, c, xs, false⟩ :: R)) {k : Nat} (hk : k ≤ m) (hA : A ≠ none) : Hp B w0 w (⟨e, sz, A, k, c, xs.take (k * sz), false⟩ :: R) :=
  ⟨h.below, h.base, fun r hr => by
    rcases List.mem_cons.1 hr with rfl | hr
    · exact Row.lies_cut (h.own _ (.head _)) hk hA
    · exact h.own r (.tail _ hr), by
    obtain ⟨h1, h2⟩ := List.pairwise_cons.1 h.apart
    exact List.pairwise_cons.2 ⟨fun r hr => h1 r hr, h2⟩, h.late⟩
/-- A new row, with room behind what it holds. -/
theorem Hp.newC {w : World} (h : Hp B w0 w R) (cs : Array Value) (e m : Nat) (hm : m ≤ cs.size) (hc : cs.size ≤ maxLen) : Hp B w0 (w.alloc (.cells cs e)) (⟨e, 1, some ⟨w.heap.size, 0, none⟩, m, cs.size, cs.toList.take m, false⟩ :: R) := by
  have h1 := h.new cs e cs.size 1 hc (by omega)
  have := h1.cut (k := m) hm (by simp)
  rwa [Nat.mul_one] at this
/-- append of so many noughts to nothing. -/
theorem a_zeros {x y : Operand} {t tn e : TypeId} {z : Value} {bytes : Nat} {kn : IntKind} {m : Nat} (ht : P.underlying t = some (.slice e)) (htn : P.underlying tn = some (.int kn)) (hinfo : (P.info? e).map (fun i => (i.zero, i.size, i.bytes)) = some (some z, 1, bytes)) (hz : z.cells = #[z])
    (hx : ev L x = some (.slice none 0 0)) (hy : ev L y = some (.int .i64 (m : Int))) (h0 : 0 < m) (hm : m ≤ 9223372036854775807) (hb : m * bytes ≤ 281474976710656) :
    Ac P n B w0 (.call { callee := .builtin .append, args := #[x, y], argTypes := #[t, tn] }) ty L R (fun v R' => ∃ g c, v = .slice (some ⟨g, 0, none⟩) m c ∧ R' = ⟨e, 1, some ⟨g, 0, none⟩, m, c, List.replicate m z, false⟩ :: R) := by
  intro a w o K Q ho _ hs hp hk
  obtain ⟨i0, hi, hzz⟩ := Option.map_eq_some_iff.1 hinfo
  simp only [Prod.mk.injEq] at hzz
  obtain ⟨hz0, hz1, hz2⟩ := hzz
  have hr := Lib.run_append_nil_zeros (P := P) w t tn o.type e i0 z .i64 kn ht htn hi hz0 m h0 (by omega) (by omega) (by rw [hz2]; exact hb)
  have hzc : ∀ q, (Builtin.zeroCells z.cells q).toList = List.replicate q z := fun q => by
    rw [hz]
    refine List.ext_getElem (by simp [Builtin.zeroCells]) fun i h1 h2 => ?_
    simp [Builtin.zeroCells, Nat.mod_one]
  unfold Oper.wp
  simp only [execOp, ho, resolve, invoke, builtin, Sem.run_bind, Sem.run_pure, Result.andThen_ok, List.map_toArray, List.map_cons, List.map_nil, hs.ev hx, hs.ev hy, hr, Oper.upon]
  have hge := grownCap_ge w m 0 e
  have hle := grownCap_le_maxLen w m 0 e (by unfold maxLen; omega)
  have hsz : (Builtin.zeroCells z.cells m ++ Builtin.zeroCells z.cells (grownCap w m 0 e - m)).size = grownCap w m 0 e := by
    rw [← Array.length_toList, Array.toList_append, List.length_append, hzc, hzc, List.length_replicate, List.length_replicate]; omega
  have hp2 := (hp.drawn (w.drawn + 1) (by omega)).newC (Builtin.zeroCells z.cells m ++ Builtin.zeroCells z.cells (grownCap w m 0 e - m)) e m (by rw [hsz]; exact hge) (by rw [hsz]; exact hle)
  rw [Array.toList_append, hzc, hzc, List.take_left' (by rw [List.length_replicate]), hsz] at hp2
  exact hk _ _ _ hp2 ⟨_, _, rfl, rfl⟩
end
end Go.Eng

/-! ## E15 -/
namespace Go.Eng
open Go Go.RowKit Go.Proofs
theorem SlW.elim {C : Prop} {k : IntKind} {w : World} {vals : List Value} {ls : List (List Int)} (h : SlW k w vals ls) {i : Int} (h0 : 0 ≤ i) (h1 : i < ls.length) (q : ∀ (A : Option Addr) (c : Nat), vals[i.toNat]? = some (Value.slice A (rdl ls i).length c) → Rd w A (rdl ls i).length c 1 (ints k (rdl ls i)) → (∀ x ∈ rdl ls i, (Lit.int k x).wf = true) → (rdl ls i).length ≤ 140737488355327 → C) : C := by
  obtain ⟨A, c, a, b, d, e⟩ := h.at h0 h1
  exact q A c a b d e
section
variable {P : Program} {n : Nd} {B : Nat} {w0 : World} {L : Env} {R : List Row} {ty : TypeId}
end
section
variable {P : Program} {n : Nd} {B : Nat} {w0 : World} {ops : Array Oper} {K : Env → List Row → Prop} {L : Env} {R : List Row} {op : Op} {ty : TypeId} {pos : String} {aft : Array Edge}
/-- One of those that may come up now, at its turn. -/
def Turn1 (P : Program) (n : Nd) (B : Nat) (w0 : World) (ops : Array Oper) (K : Env → List Row → Prop) (fuel : Nat) (listed : Array Bool) (L : Env) (R : List Row) (i : Nat) : Prop :=
  ∀ a w (Q : Exit → Act → World → Prop), Sat n L a → Hp B w0 w R → (∀ c a w, ¬ Q (.panic c) a w) → (∀ a' w' L' R', Sat n L' a' → Hp B w0 w' R' → K L' R' → Q .normal a' w') →
    wpOp P ops Q i (fun a' w' => ∃ S' : World → Prop, S' w' ∧ (barB ops listed i = true ∨ ∀ x, S' x → Hp B w0 x R) ∧ wpAnyB P ops Q fuel S' (listed.setIfInBounds i true) a' w') a w
end
end Go.Eng

/-! ## N1 -/
namespace Go.Proofs.Ytdfcnalkdlifiaa
open Go Go.Eng Go.Pure
set_option linter.unusedVariables false
theorem LA.init0 {u : List Int} : LA u (lrotK u u.length) 0 1 0 := LA.init _
set_option maxRecDepth 100000 in
set_option maxHeartbeats 800000 in
theorem at6_ct {w : World} {A_u : Option Addr} {n_u c_u : Nat} {u : List Int} (h_u : Rd w A_u n_u c_u 1 (ints .u8 u)) (hN : u.length ≤ 1000000) :
    Ct Try.prog 87 #[.slice A_u n_u c_u] w.heap.size w [] (fun v R' => v = .int .i64 (lrot u)) := by
  obtain rfl := h_u.lenI
  refine fn1 Try.func87 rfl rfl rfl ?_
  have m_u := h_u.max
  refine w_seq ?_
  refine w_reg ?_
  refine wr_y rfl (y_assign rfl) ?_
  refine wr_nil ?_
  refine w_seq ?_
  refine w_reg ?_
  refine wr_y rfl (y_move rfl) ?_
  refine wr_y rfl (y_len Try.underlying22 rfl) ?_
  refine wr_y rfl (y_assign rfl) ?_
  refine wr_nil ?_
  refine w_seq ?_
  refine w_reg ?_
  refine wr_y rfl (y_assign rfl) ?_
  refine wr_y rfl (y_assign rfl) ?_
  refine wr_y rfl (y_assign rfl) ?_
  refine wr_nil ?_
  refine w_seq ?_
  refine w_block ?_
  refine w_loop3 (fun (i : Int) (j : Int) (k : Int) => [(0, .slice A_u u.length c_u), (3, .int .i64 ((u.length : Nat) : Int)), (4, .int .i64 i), (5, .int .i64 j), (6, .int .i64 k)]) (fun (i : Int) (j : Int) (k : Int) => []) (fun (i : Int) (j : Int) (k : Int) => (LA u (lrotK u u.length) i j k) ∧ (i ≤ 2 * u.length + 2) ∧ (j ≤ 2 * u.length + 3) ∧ (k ≤ u.length) ∧ (u.length = 0 → i = 0 ∧ j = 1)) (fun (i : Int) (j : Int) (k : Int) => (3 * u.length + 3 - (i + j + k)).toNat) ?_ ?_
  ·
    exact ⟨0, 1, 0, ⟨(LA.init0), (by omega), (by omega), (by omega), (by omega)⟩, (Sub.cons rfl (Sub.cons rfl (Sub.cons rfl (Sub.cons rfl (Sub.cons rfl Sub.nil))))), fun _ h => h⟩
  intro i j k ⟨hLA, hib, hjb, hkb, hz⟩
  have hi0 := hLA.i0
  have hj0 := hLA.j0
  have hk0 := hLA.k0
  refine w_seq ?_
  refine w_seq ?_
  refine w_reg ?_
  refine wr_y rfl (y_move rfl) ?_
  refine wr_y rfl (y_move rfl) ?_
  refine wr_y rfl (y_lt rfl rfl) ?_
  refine wr_y rfl (y_move rfl) ?_
  refine wr_mid 4 [(0, .slice A_u u.length c_u), (3, .int .i64 ((u.length : Nat) : Int)), (4, .int .i64 i), (5, .int .i64 j), (6, .int .i64 k), (18, .bool (decide ((i < ((u.length : Nat) : Int)) ∧ (j < ((u.length : Nat) : Int)))))] [] ?_ ?_
  ·
    refine wr_case 14 rfl (fun hc1 => ?_) (fun hc1 => ?_)
    ·
      refine wr_yes rfl rfl ?_
      refine wr_y rfl (y_move rfl) ?_
      refine wr_yes rfl rfl ?_
      refine wr_y rfl (y_move rfl) ?_
      refine wr_yes rfl rfl ?_
      refine wr_y rfl (y_lt rfl rfl) ?_
      refine wr_y rfl (y_pickT rfl rfl) ?_
      refine wr_nil ?_
      exact ⟨(Sub.cons rfl (Sub.cons rfl (Sub.cons rfl (Sub.cons rfl (Sub.cons rfl (Sub.to rfl (mb (by first | omega | exact ⟨fun h => ⟨(by assumption), h⟩, fun h => h.2⟩ | simp [*])) Sub.nil)))))), fun _ h => h⟩
    ·
      refine wr_no rfl rfl rfl rfl ?_
      refine wr_no rfl rfl rfl rfl ?_
      refine wr_no rfl rfl rfl rfl ?_
      refine wr_y rfl (y_pickF rfl rfl) ?_
      refine wr_nil ?_
      exact ⟨(Sub.cons rfl (Sub.cons rfl (Sub.cons rfl (Sub.cons rfl (Sub.cons rfl (Sub.to rfl (mb_f (by first | omega | exact ⟨fun h => ⟨(by assumption), h⟩, fun h => h.2⟩ | simp [*])) Sub.nil)))))), fun _ h => h⟩
  refine wr_y rfl (y_move rfl) ?_
  refine wr_mid 4 [(0, .slice A_u u.length c_u), (3, .int .i64 ((u.length : Nat) : Int)), (4, .int .i64 i), (5, .int .i64 j), (6, .int .i64 k), (23, .bool (decide (((i < ((u.length : Nat) : Int)) ∧ (j < ((u.length : Nat) : Int))) ∧ (k < ((u.length : Nat) : Int)))))] [] ?_ ?_
  ·
    refine wr_case 19 rfl (fun hc2 => ?_) (fun hc2 => ?_)
    ·
      refine wr_yes rfl rfl ?_
      refine wr_y rfl (y_move rfl) ?_
      refine wr_yes rfl rfl ?_
      refine wr_y rfl (y_move rfl) ?_
      refine wr_yes rfl rfl ?_
      refine wr_y rfl (y_lt rfl rfl) ?_
      refine wr_y rfl (y_pickT rfl rfl) ?_
      refine wr_nil ?_
      exact ⟨(Sub.cons rfl (Sub.cons rfl (Sub.cons rfl (Sub.cons rfl (Sub.cons rfl (Sub.to rfl (mb (by first | omega | exact ⟨fun h => ⟨(by assumption), h⟩, fun h => h.2⟩ | simp [*])) Sub.nil)))))), fun _ h => h⟩
    ·
      refine wr_no rfl rfl rfl rfl ?_
      refine wr_no rfl rfl rfl rfl ?_
      refine wr_no rfl rfl rfl rfl ?_
      refine wr_y rfl (y_pickF rfl rfl) ?_
      refine wr_nil ?_
      exact ⟨(Sub.cons rfl (Sub.cons rfl (Sub.cons rfl (Sub.cons rfl (Sub.cons rfl (Sub.to rfl (mb_f (by first | omega | exact ⟨fun h => ⟨(by assumption), h⟩, fun h => h.2⟩ | simp [*])) Sub.nil)))))), fun _ h => h⟩
  refine wr_nil ?_
  refine w_if rfl (fun hc3 => ?_) (fun hc3 => ?_)
  ·
    have hm1 := Int.emod_nonneg (i + k) (show (u.length : Int) ≠ 0 by omega)
    have hm2 := Int.emod_lt_of_pos (i + k) (show (0 : Int) < u.length by omega)
    have hm3 := Int.emod_nonneg (j + k) (show (u.length : Int) ≠ 0 by omega)
    have hm4 := Int.emod_lt_of_pos (j + k) (show (0 : Int) < u.length by omega)
    have fl := lrot_FL (s := u) (by omega)
    have ei := rot_rd (s := u) hLA.i0 hLA.k0
    have ej := rot_rd (s := u) hLA.j0 hLA.k0
    refine w_skip ?_
    refine w_block ?_
    refine w_seq ?_
    refine w_regd mixed ?_
    refine wd_y 0 rfl (by kernel_rfl) rfl (y_move rfl) ?_
    refine wd_y 1 rfl (by kernel_rfl) rfl (y_move rfl) ?_
    refine wd_y 2 rfl (by kernel_rfl) rfl (y_move rfl) ?_
    refine wd_y 3 rfl (by kernel_rfl) rfl (y_addI rfl rfl (by omega)) ?_
    refine wd_y 4 rfl (by kernel_rfl) rfl (y_move rfl) ?_
    refine wd_y 5 rfl (by kernel_rfl) rfl (y_rem rfl rfl (by omega) (by omega)) ?_
    refine wd_y 6 rfl (by kernel_rfl) rfl (y_index1 Try.underlying22 sz5 rfl rfl (h_u.c _) (by omega) (by omega)) ?_
    refine wd_y 7 rfl (by kernel_rfl) rfl (y_ldI Try.underlying5 rfl rfl (h_u.c _) (by omega) (by omega)) ?_
    refine wd_y 8 rfl (by kernel_rfl) rfl (y_move rfl) ?_
    refine wd_y 9 rfl (by kernel_rfl) rfl (y_move rfl) ?_
    refine wd_y 10 rfl (by kernel_rfl) rfl (y_move rfl) ?_
    refine wd_y 11 rfl (by kernel_rfl) rfl (y_addI rfl rfl (by omega)) ?_
    refine wd_y 12 rfl (by kernel_rfl) rfl (y_move rfl) ?_
    refine wd_y 13 rfl (by kernel_rfl) rfl (y_rem rfl rfl (by omega) (by omega)) ?_
    refine wd_y 14 rfl (by kernel_rfl) rfl (y_index1 Try.underlying22 sz5 rfl rfl (h_u.c _) (by omega) (by omega)) ?_
    refine wd_y 15 rfl (by kernel_rfl) rfl (y_ldI Try.underlying5 rfl rfl (h_u.c _) (by omega) (by omega)) ?_
    refine wd_y 16 rfl (by kernel_rfl) rfl (y_assign rfl) ?_
    refine wd_y 17 rfl (by kernel_rfl) rfl (y_assign rfl) ?_
    refine wd_nil (by kernel_rfl) ?_
    refine w_seq ?_
    refine w_block ?_
    refine w_seq ?_
    refine w_reg ?_
    refine wr_y rfl (y_move rfl) ?_
    refine wr_y rfl (y_move rfl) ?_
    refine wr_y rfl (y_eq rfl rfl) ?_
    refine wr_y rfl (y_assign rfl) ?_
    refine wr_nil ?_
    refine w_if rfl (fun hc4 => ?_) (fun hc4 => ?_)
    ·
      have hst := hLA.eq (by rw [← ei, ← ej]; exact hc4)
      refine w_seq ?_
      refine w_reg ?_
      refine wr_y rfl (y_move rfl) ?_
      refine wr_y rfl (y_addI rfl rfl (by omega)) ?_
      refine wr_y rfl (y_assign rfl) ?_
      refine wr_nil ?_
      refine w_exit ?_
      exact ⟨i, j, k + 1, ⟨(hst), (by omega), (by omega), (by omega), (by omega)⟩, (by omega), (Sub.cons rfl (Sub.cons rfl (Sub.cons rfl (Sub.cons rfl (Sub.cons rfl Sub.nil))))), fun _ h => h⟩
    ·
      refine w_seq ?_
      refine w_reg ?_
      refine wr_y rfl (y_move rfl) ?_
      refine wr_y rfl (y_move rfl) ?_
      refine wr_y rfl (y_gt rfl rfl) ?_
      refine wr_y rfl (y_assign rfl) ?_
      refine wr_nil ?_
      refine w_if rfl (fun hc5 => ?_) (fun hc5 => ?_)
      ·
        have hst := hLA.gt fl (by rw [← ei, ← ej]; exact hc5)
        refine w_reg ?_
        refine wr_y rfl (y_move rfl) ?_
        refine wr_y rfl (y_move rfl) ?_
        refine wr_y rfl (y_addI rfl rfl (by omega)) ?_
        refine wr_y rfl (y_addI rfl rfl (by omega)) ?_
        refine wr_y rfl (y_assign rfl) ?_
        refine wr_nil ?_
        refine w_seq ?_
        refine w_reg ?_
        refine wr_y rfl (y_assign rfl) ?_
        refine wr_nil ?_
        refine w_seq ?_
        refine w_reg ?_
        refine wr_y rfl (y_move rfl) ?_
        refine wr_y rfl (y_move rfl) ?_
        refine wr_y rfl (y_eq rfl rfl) ?_
        refine wr_nil ?_
        refine w_if rfl (fun hc6 => ?_) (fun hc6 => ?_)
        ·
          refine w_reg ?_
          refine wr_y rfl (y_move rfl) ?_
          refine wr_y rfl (y_addI rfl rfl (by omega)) ?_
          refine wr_y rfl (y_assign rfl) ?_
          refine wr_nil ?_
          exact ⟨i + (k + 1), j + 1, 0, ⟨(hst.2 (by omega)), (by omega), (by omega), (by omega), (by omega)⟩, (by omega), (Sub.cons rfl (Sub.cons rfl (Sub.cons rfl (Sub.cons rfl (Sub.cons rfl Sub.nil))))), fun _ h => h⟩
        ·
          refine w_skip ?_
          exact ⟨i + (k + 1), j, 0, ⟨(hst.1 (by omega)), (by omega), (by omega), (by omega), (by omega)⟩, (by omega), (Sub.cons rfl (Sub.cons rfl (Sub.cons rfl (Sub.cons rfl (Sub.cons rfl Sub.nil))))), fun _ h => h⟩
      ·
        have hst := hLA.lt fl (by rw [← ei, ← ej]; omega)
        refine w_reg ?_
        refine wr_y rfl (y_move rfl) ?_
        refine wr_y rfl (y_move rfl) ?_
        refine wr_y rfl (y_addI rfl rfl (by omega)) ?_
        refine wr_y rfl (y_addI rfl rfl (by omega)) ?_
        refine wr_y rfl (y_assign rfl) ?_
        refine wr_nil ?_
        refine w_seq ?_
        refine w_reg ?_
        refine wr_y rfl (y_assign rfl) ?_
        refine wr_nil ?_
        refine w_seq ?_
        refine w_reg ?_
        refine wr_y rfl (y_move rfl) ?_
        refine wr_y rfl (y_move rfl) ?_
        refine wr_y rfl (y_eq rfl rfl) ?_
        refine wr_nil ?_
        refine w_if rfl (fun hc7 => ?_) (fun hc7 => ?_)
        ·
          refine w_reg ?_
          refine wr_y rfl (y_move rfl) ?_
          refine wr_y rfl (y_addI rfl rfl (by omega)) ?_
          refine wr_y rfl (y_assign rfl) ?_
          refine wr_nil ?_
          exact ⟨i, (j + (k + 1)) + 1, 0, ⟨(hst.2 (by omega)), (by omega), (by omega), (by omega), (by omega)⟩, (by omega), (Sub.cons rfl (Sub.cons rfl (Sub.cons rfl (Sub.cons rfl (Sub.cons rfl Sub.nil))))), fun _ h => h⟩
        ·
          refine w_skip ?_
          exact ⟨i, j + (k + 1), 0, ⟨(hst.1 (by omega)), (by omega), (by omega), (by omega), (by omega)⟩, (by omega), (Sub.cons rfl (Sub.cons rfl (Sub.cons rfl (Sub.cons rfl (Sub.cons rfl Sub.nil))))), fun _ h => h⟩
  ·
    refine w_exit ?_
    refine w_seq ?_
    refine w_reg ?_
    refine wr_y rfl (y_move rfl) ?_
    refine wr_y rfl (y_move rfl) ?_
    refine wr_y rfl (y_min rfl rfl) ?_
    refine wr_y rfl (y_assign rfl) ?_
    refine wr_nil ?_
    refine w_ret ?_
    refine ⟨_, rfl, ?_⟩
    rcases Nat.eq_zero_or_pos u.length with z | z
    · obtain ⟨rfl, rfl⟩ := hz z
      have e : lrot u = 0 := by unfold lrot; rw [z]; rfl
      rw [e]; rfl
    · exact congrArg (Value.int .i64) (hLA.done (lrot_FL z) (by omega))

set_option maxRecDepth 100000 in
theorem growB_ct {w : World} {m : Int} (h0 : 0 ≤ m) (hN : m ≤ 1000000) :
    Ct Try.prog 101 #[.slice none 0 0, .int .i64 m] w.heap.size w [] (fun v R' => ∃ A c, v = .slice A 0 c ∧ R' = [⟨5, 1, A, 0, c, ints .u8 [], false⟩]) := by
  refine fn1 Try.func101 rfl rfl rfl ?_
  refine w_seq ?_
  refine w_reg ?_
  refine wr_sub (R1 := [⟨5, 1, none, 0, 0, ints .u8 ([]), false⟩]) (Sub.refl _) (fun _ h => h.nil 5 1) ?_
  refine wr_y rfl (y_assign rfl) ?_
  refine wr_nil ?_
  refine w_seq ?_
  refine w_seq ?_
  refine w_reg ?_
  refine wr_y rfl (y_move rfl) ?_
  refine wr_y rfl (Yl.f (y_lt rfl rfl) (by omega)) ?_
  refine wr_nil ?_
  refine w_false rfl ?_
  refine w_skip ?_
  refine w_seq ?_
  refine w_seq ?_
  refine w_reg ?_
  refine wr_y rfl (y_move rfl) ?_
  refine wr_y rfl (y_move rfl) ?_
  refine wr_y rfl (y_cap Try.underlying22 rfl) ?_
  refine wr_y rfl (y_move rfl) ?_
  refine wr_y rfl (y_len Try.underlying22 rfl) ?_
  refine wr_y rfl (y_subI rfl rfl (by omega)) ?_
  refine wr_y rfl (y_subI rfl rfl (by omega)) ?_
  refine wr_y rfl (y_assign rfl) ?_
  refine wr_nil ?_
  refine w_seq ?_
  refine w_reg ?_
  refine wr_y rfl (y_move rfl) ?_
  refine wr_y rfl (y_gt rfl rfl) ?_
  refine wr_nil ?_
  refine w_if rfl (fun hc1 => ?_) (fun hc1 => ?_)
  ·
    refine w_reg ?_
    refine wr_y rfl (y_move rfl) ?_
    refine wr_y rfl (y_move rfl) ?_
    refine wr_y rfl (y_cap Try.underlying22 rfl) ?_
    refine wr_y rfl (y_sliceZ Try.underlying22 sz5 rfl rfl) ?_
    refine wr_y rfl (Yl.is (y_move rfl) (by rw [show m - (((0 : Nat) : Int) - ((0 : Nat) : Int)) = ((m.toNat : Nat) : Int) by omega])) ?_
    refine wr_a rfl (a_zeros Try.underlying22 Try.underlying3 zb5 rfl rfl rfl (by omega) (by omega) (by omega)) ?_
    rintro _ _ ⟨g_1, c_2, rfl, rfl⟩
    refine wr_sub (R1 := [⟨5, 1, (some ⟨g_1, 0, none⟩), 0, c_2, ints .u8 ([]), false⟩, ⟨5, 1, none, 0, 0, ints .u8 ([]), false⟩]) (Sub.refl _) (fun _ h => h.cut (k := 0) (Nat.zero_le _) (by simp)) ?_
    refine wr_y rfl (y_move rfl) ?_
    refine wr_y rfl (y_len Try.underlying22 rfl) ?_
    refine wr_y rfl (y_sliceZ Try.underlying22 sz5 rfl rfl) ?_
    refine wr_y rfl (y_assign rfl) ?_
    refine wr_nil ?_
    refine w_seq ?_
    refine w_reg ?_
    refine wr_y rfl (y_move rfl) ?_
    refine wr_y rfl (y_assign rfl) ?_
    refine wr_nil ?_
    refine w_retR (R1 := [⟨5, 1, (some ⟨g_1, 0, none⟩), 0, c_2, ints .u8 ([]), false⟩]) (fun _ h => h.sel [0] (by decide) rfl) ?_
    refine ⟨_, rfl, ?_⟩
    exact ⟨_, _, rfl, rfl⟩
  ·
    refine w_skip ?_
    refine w_seq ?_
    refine w_reg ?_
    refine wr_y rfl (y_move rfl) ?_
    refine wr_y rfl (y_assign rfl) ?_
    refine wr_nil ?_
    refine w_retR (R1 := [⟨5, 1, none, 0, 0, ints .u8 ([]), false⟩]) (fun _ h => h.sel [0] (by decide) rfl) ?_
    refine ⟨_, rfl, ?_⟩
    exact ⟨_, _, rfl, rfl⟩

theorem flat_le {ws : List (List Int)} (i : Nat) : ((ws.take i).flatten).length ≤ ws.flatten.length := by
  conv => rhs; rw [← List.take_append_drop i ws]
  rw [List.flatten_append, List.length_append]
  omega
set_option maxRecDepth 100000 in
set_option maxHeartbeats 800000 in
theorem concatB_ct {w : World} {A_ws : Option Addr} {n_ws c_ws : Nat} {vals_ws : List Value} {ws : List (List Int)} (h_ws : Rd w A_ws n_ws c_ws 1 vals_ws) (s_ws : SlW .u8 w vals_ws ws) (hN : ws.flatten.length ≤ 1000000 ∧ ws.length ≤ 1000000) :
    Ct Try.prog 88 #[.slice A_ws n_ws c_ws] w.heap.size w [] (fun v R' => ∃ A c, v = .slice A (ws.flatten).length c ∧ R' = [⟨5, 1, A, (ws.flatten).length, c, ints .u8 (ws.flatten), false⟩]) := by
  obtain rfl : n_ws = ws.length := by have := h_ws.len; have := s_ws.1; omega
  refine fn1 Try.func88 rfl rfl rfl ?_
  have m_ws := h_ws.max
  refine w_seq ?_
  refine w_reg ?_
  refine wr_y rfl (y_assign rfl) ?_
  refine wr_nil ?_
  refine w_seq ?_
  refine w_reg ?_
  refine wr_y rfl (y_assign rfl) ?_
  refine wr_nil ?_
  refine w_seq ?_
  refine w_seq ?_
  refine w_reg ?_
  refine wr_y rfl (y_move rfl) ?_
  refine wr_y rfl (y_len Try.underlying30 rfl) ?_
  refine wr_y rfl (y_move rfl) ?_
  refine wr_nil ?_
  refine w_block ?_
  refine w_loop2 (fun (i : Int) (z : Int) => [(0, .slice A_ws ws.length c_ws), (3, .int .i64 z), (9, .slice A_ws ws.length c_ws), (10, .int .i64 ((ws.length : Nat) : Int)), (11, .int .i64 i)]) (fun (i : Int) (z : Int) => []) (fun (i : Int) (z : Int) => (0 ≤ i) ∧ (i ≤ ws.length) ∧ (z = ((ws.take i.toNat).flatten.length : Int))) (fun (i : Int) (z : Int) => (ws.length - i).toNat) ?_ ?_
  ·
    exact ⟨0, 0, ⟨(by omega), (by omega), (rfl)⟩, (Sub.cons rfl (Sub.cons rfl (Sub.cons rfl (Sub.cons rfl (Sub.cons rfl Sub.nil))))), fun _ h => h⟩
  intro i z ⟨hi0, hi1, hz⟩
  have hfl := flat_le (ws := ws) i.toNat
  refine w_seq ?_
  refine w_reg ?_
  refine wr_y rfl (y_lt rfl rfl) ?_
  refine wr_nil ?_
  refine w_seq ?_
  refine w_if rfl (fun hc1 => ?_) (fun hc1 => ?_)
  ·
    have hfl2 := flat_le (ws := ws) (i + 1).toNat
    rw [flat_take_succ hi0 (by omega), List.length_append] at hfl2
    refine w_skip ?_
    refine w_seq ?_
    refine w_block ?_
    refine w_seq ?_
    refine w_reg ?_
    refine wr_y rfl (y_index1 Try.underlying30 sz22 rfl rfl (h_ws.c _) (by omega) (by omega)) ?_
    refine s_ws.elim (i := i) (by omega) (by omega) (fun A_1 c_2 hv_3 hr_4 hb_5 mhr_4 => ?_)
    refine wr_y rfl (y_ld Try.underlying22 rfl rfl rfl (h_ws.c _) hv_3) ?_
    refine wr_y rfl (y_assign rfl) ?_
    refine wr_nil ?_
    refine w_seq ?_
    refine w_reg ?_
    refine wr_y rfl (y_move rfl) ?_
    refine wr_y rfl (y_move rfl) ?_
    refine wr_y rfl (y_len Try.underlying22 rfl) ?_
    refine wr_y rfl (y_addI rfl rfl (by omega)) ?_
    refine wr_y rfl (y_assign rfl) ?_
    refine wr_nil ?_
    refine w_seq ?_
    refine w_reg ?_
    refine wr_y rfl (y_move rfl) ?_
    refine wr_y rfl (Yl.f (y_lt rfl rfl) (by omega)) ?_
    refine wr_nil ?_
    refine w_false rfl ?_
    refine w_skip ?_
    refine w_reg ?_
    refine wr_y rfl (y_addI rfl rfl (by omega)) ?_
    refine wr_y rfl (y_move rfl) ?_
    refine wr_nil ?_
    exact ⟨i + 1, z + (((rdl ws i).length : Nat) : Int), ⟨(by omega), (by omega), (by rw [flat_take_succ hi0 (by omega), List.length_append, hz]; omega)⟩, (by omega), (Sub.cons rfl (Sub.cons rfl (Sub.cons rfl (Sub.cons rfl (Sub.cons rfl Sub.nil))))), fun _ h => h⟩
  ·
    refine w_exit ?_
    refine w_seq ?_
    refine w_reg ?_
    refine wr_y rfl (y_move rfl) ?_
    refine wr_a rfl (a_callF en101 rfl (Ct.fresh (fun w hw => growB_ct (by omega) (by omega)))) ?_
    rintro _ _ ⟨_, rfl, A_6, c_7, rfl, rfl⟩
    refine wr_y rfl (y_assign rfl) ?_
    refine wr_nil ?_
    refine w_seq ?_
    refine w_seq ?_
    refine w_reg ?_
    refine wr_y rfl (y_move rfl) ?_
    refine wr_y rfl (y_len Try.underlying30 rfl) ?_
    refine wr_y rfl (y_move rfl) ?_
    refine wr_nil ?_
    refine w_block ?_
    refine w_loop5 (fun (q : Int) (A1 : Option Addr) (n1 : Nat) (c1 : Nat) (acc : List Int) => [(6, .slice A1 n1 c1), (25, .slice A_ws ws.length c_ws), (26, .int .i64 ((ws.length : Nat) : Int)), (27, .int .i64 q)]) (fun (q : Int) (A1 : Option Addr) (n1 : Nat) (c1 : Nat) (acc : List Int) => [⟨5, 1, A1, n1, c1, ints .u8 acc, false⟩]) (fun (q : Int) (A1 : Option Addr) (n1 : Nat) (c1 : Nat) (acc : List Int) => (0 ≤ q) ∧ (q ≤ ws.length) ∧ (n1 = acc.length) ∧ (acc = (ws.take q.toNat).flatten)) (fun (q : Int) (A1 : Option Addr) (n1 : Nat) (c1 : Nat) (acc : List Int) => (ws.length - q).toNat) ?_ ?_
    ·
      exact ⟨0, A_6, 0, c_7, [], ⟨(by omega), (by omega), (rfl), (rfl)⟩, (Sub.cons rfl (Sub.cons rfl (Sub.cons rfl (Sub.cons rfl Sub.nil)))), fun _ h => h⟩
    intro q A1 n1 c1 acc ⟨hq0, hq1, hn1, hacc⟩
    have hal : acc.length ≤ ws.flatten.length := by rw [hacc]; exact flat_le _
    refine w_seq ?_
    refine w_reg ?_
    refine wr_y rfl (y_lt rfl rfl) ?_
    refine wr_nil ?_
    refine w_seq ?_
    refine w_if rfl (fun hc2 => ?_) (fun hc2 => ?_)
    ·
      have hfl2 := flat_le (ws := ws) (q + 1).toNat
      rw [flat_take_succ hq0 (by omega), List.length_append] at hfl2
      refine w_skip ?_
      refine w_seq ?_
      refine w_block ?_
      refine w_seq ?_
      refine w_reg ?_
      refine wr_y rfl (y_index1 Try.underlying30 sz22 rfl rfl (h_ws.c _) (by omega) (by omega)) ?_
      refine s_ws.elim (i := q) (by omega) (by omega) (fun A_8 c_9 hv_10 hr_11 hb_12 mhr_11 => ?_)
      refine wr_y rfl (y_ld Try.underlying22 rfl rfl rfl (h_ws.c _) hv_10) ?_
      refine wr_y rfl (y_assign rfl) ?_
      refine wr_nil ?_
      refine w_reg ?_
      refine wr_y rfl (y_move rfl) ?_
      refine wr_y rfl (y_move rfl) ?_
      refine wr_a rfl (a_appendI 0 rfl Try.underlying22 zb5 rfl rfl rfl (hr_11.c _) (by omega)) ?_
      rintro _ _ ⟨A_13, c_14, rfl, rfl⟩
      refine wr_rows (R1 := [⟨5, 1, A_13, (n1 + ((rdl ws q).length)), c_14, ints .u8 (acc ++ (rdl ws q)), false⟩]) rfl ?_
      refine wr_as (v := .slice A_13 (n1 + ((rdl ws q).length)) c_14) rfl ?_
      refine wr_y rfl (y_assign rfl) ?_
      refine wr_nil ?_
      refine w_reg ?_
      refine wr_y rfl (y_addI rfl rfl (by omega)) ?_
      refine wr_y rfl (y_move rfl) ?_
      refine wr_nil ?_
      exact ⟨q + 1, A_13, n1 + ((rdl ws q).length), c_14, acc ++ (rdl ws q), ⟨(by omega), (by omega), (by rw [List.length_append, hn1]), (by rw [flat_take_succ hq0 (by omega), hacc])⟩, (by omega), (Sub.cons rfl (Sub.cons rfl (Sub.cons rfl (Sub.cons rfl Sub.nil)))), fun _ h => h⟩
    ·
      refine w_exit ?_
      refine w_seq ?_
      refine w_reg ?_
      refine wr_y rfl (y_move rfl) ?_
      refine wr_y rfl (y_assign rfl) ?_
      refine wr_nil ?_
      refine w_retR (R1 := [⟨5, 1, A1, n1, c1, ints .u8 acc, false⟩]) (fun _ h => h.sel [0] (by decide) rfl) ?_
      refine ⟨_, rfl, ?_⟩
      rw [List.take_of_length_le (by omega)] at hacc
      subst hacc
      obtain rfl := hn1
      exact ⟨_, _, rfl, rfl⟩

end Go.Proofs.Ytdfcnalkdlifiaa

/-! ## E18 -/
namespace Go.Eng
open Go Go.RowKit Go.Proofs Go.Sort
/-- A world that has but grown. -/
theorem grown_eq {W w' : World} (hb : Below W.heap.size W w') (hd : W.drawn ≤ w'.drawn) : ∃ q os, w' = grow (W.drewN q) os := by
  refine ⟨w'.drawn - W.drawn, w'.heap.extract W.heap.size w'.heap.size, ?_⟩
  have hh : W.heap ++ w'.heap.extract W.heap.size w'.heap.size = w'.heap := by
    apply Array.ext_getElem?
    intro k
    rw [Array.getElem?_append]
    split
    · rename_i hk
      exact (hb.block k hk).symm
    · rename_i hk
      have := hb.size
      rw [Array.getElem?_extract]
      split
      · congr 1; omega
      · rename_i h2
        rw [Array.getElem?_eq_none (by omega)]
  obtain ⟨h1, h2, h3, h4, h5⟩ := w'
  obtain ⟨g1, g2, g3, g4, g5⟩ := W
  have b1 := hb.os
  have b2 := hb.tape
  have b3 := hb.output
  simp only at b1 b2 b3 hh hd
  subst b1; subst b2; subst b3
  simp only [grow, World.drewN, hh, World.mk.injEq, true_and, and_true]
  omega
section
variable {P : Program} {B : Nat} {w0 : World} {R : List Row}
/-- What the kit's contract of slices.SortFunc says, at elements of two cells. -/
def SortsK2 (P : Program) (f g : Nat) (cb : Array Value) : Prop :=
  ∀ (α : Type) [Inhabited α] (enc : α → List Value) (_ : ∀ x, (enc x).length = 2) (_ : ∀ x, ∀ v ∈ enc x, v.oneCell' = true) (cf : α → α → Int) (_ : SWO (ltOf cf)) (blk off cap : Nat) (d : Array α) (w : World)
    (_ : CmpLays P g cb enc 2 cf blk off d.size w) (_ : HoldsK enc 2 w blk off d) (_ : blk < w.heap.size) (_ : d.size < 4611686018427387904),
    Calls P f #[.slice (some ⟨blk, off, none⟩) d.size cap, .func (.func g) #[] cb] w fun e w' => e = .returned (.tuple #[]) ∧ ∃ d' n os, PermIn 0 d.size d d' ∧ SortedIn (ltOf cf) 0 d.size d' ∧ w' = sortWorldK enc 2 w blk off n d' os
/-- All rows but one, in a world that is asx it was but for that one's block. -/
theorem Hp.but {w W : World} (h : Hp B w0 w R) {i : Nat} {r : Row} (hi : R[i]? = some r) (ho : W.os = w.os) (ht : W.tape = w.tape) (hu : W.output = w.output) (hd : w.drawn ≤ W.drawn) (hs : w.heap.size ≤ W.heap.size)
    (hk : ∀ k, k < w.heap.size → (∀ a, r.A = some a → a.block ≠ k) → W.heap[k]? = w.heap[k]?) : Hp B w0 W (R.eraseIdx i) := by
  have hr : r ∈ R := List.mem_of_getElem? hi
  refine ⟨⟨ho.trans h.below.os, ht.trans h.below.tape, hu.trans h.below.output, Nat.le_trans h.below.size hs, fun k hkB => ?_⟩, Nat.le_trans h.base hs, fun q hq => ?_, h.apart.sublist (List.eraseIdx_sublist _ _), h.late.trans ⟨hd, fun k o hk' hc => ?_⟩⟩
  · rw [hk k (Nat.lt_of_lt_of_le hkB h.base) (fun a ha => by have := (Row.lies_lt (h.own r hr) a ha).1; omega), h.below.block k hkB]
  · obtain ⟨j, hj⟩ := List.mem_iff_getElem?.1 hq
    obtain ⟨j', hj', hne⟩ : ∃ j', R[j']? = some q ∧ j' ≠ i := by
      rw [List.getElem?_eraseIdx] at hj
      split at hj
      · exact ⟨j, hj, by omega⟩
      · exact ⟨j + 1, hj, by omega⟩
    refine Row.lies_of_block (h.own q (List.mem_of_getElem? hj')) fun a ha => hk a.block (Row.lies_lt (h.own q (List.mem_of_getElem? hj')) a ha).2 fun a' ha' => ?_
    have hjl := (List.getElem?_eq_some_iff.1 hj').1
    have hjv := (List.getElem?_eq_some_iff.1 hj').2
    have hil := (List.getElem?_eq_some_iff.1 hi).1
    have hiv := (List.getElem?_eq_some_iff.1 hi).2
    rcases Nat.lt_or_gt_of_ne hne with hlt | hlt
    · have := List.pairwise_iff_getElem.1 h.apart j' i hjl hil hlt
      rw [hjv, hiv] at this
      exact fun e => this a a' ha ha' e.symm
    · have := List.pairwise_iff_getElem.1 h.apart i j' hil hjl hlt
      rw [hjv, hiv] at this
      exact this a' a ha' ha
  · rw [hk k (Array.getElem?_eq_some_iff.1 hk').1 fun a ha e => ?_]
    · exact hk'
    · subst e
      obtain ⟨cs, e', fr, hc2⟩ := Row.lies_cells (h.own r hr) ha
      rw [hc2] at hk'
      cases hk'
      cases hc
theorem sort_pairs {f g : Nat} {cb : Array Value} (hSF : SortsK2 P f g cb) {T m c : Nat} {A : Option Addr} {l : List (Int × Int)} (i : Nat) (hi : R[i]? = some ⟨T, 2, A, m, c, prs l, false⟩) (hne : l ≠ []) (hsz : l.length < 4611686018427387904) (cmp : Int × Int → Int × Int → Int) (hO : SWO (ltOf cmp))
    (hclo : ∀ W, Hp B w0 W (R.eraseIdx i) → ∀ x ∈ l, ∀ y ∈ l,
      Ct P g (#[.agg #[.int .i64 x.1, .int .i64 x.2], .agg #[.int .i64 y.1, .int .i64 y.2]] ++ cb) W.heap.size W [] (fun v _ => v = .int .i64 (cmp x y))) :
    Ct P f #[.slice A m c, .func (.func g) #[] cb] B w0 R (fun v R' => v = .tuple #[] ∧ ∃ l', l'.Perm l ∧ l'.Pairwise (fun x y => ¬ cmp y x < 0) ∧ R' = R.set i ⟨T, 2, A, m, c, prs l', false⟩) := by
  intro w hw
  have hown := Row.lies_w (hw.own _ (List.mem_of_getElem? hi)) rfl
  have hrd := Row.rd (hw.own _ (List.mem_of_getElem? hi))
  have hm : m = l.length := by
    have := hrd.len
    rw [prs_length] at this
    simp only at this
    omega
  have hpos : 0 < l.length := List.length_pos_iff.2 hne
  rcases hown.2 with ⟨_, hn⟩ | ⟨blk, cap, cur, hv, hb, hg, hnc, hcm, hcs, ht⟩
  · simp only at hn; omega
  simp only [Value.slice.injEq, true_and] at hv
  obtain ⟨rfl, rfl⟩ := hv
  simp only at ht hcs hg hnc
  haveI : Inhabited { p : Int × Int // p ∈ l } := ⟨⟨l[0], List.getElem_mem _⟩⟩
  let d : Array { p : Int × Int // p ∈ l } := l.attach.toArray
  have hds : d.size = l.length := by simp [d]
  have hdv : d.toList.map Subtype.val = l := List.attach_map_subtype_val l
  have hlt : blk < w.heap.size := (Array.getElem?_eq_some_iff.1 hg).1
  have hH : HoldsK encP 2 w blk 0 d := by
    intro j hj
    have hj' : j < l.length * 2 := by
      have : j < (flatK encP 2 d).size := hj
      rw [size_flatK, hds] at this
      exact this
    have hf := flatK_prs d
    rw [hdv] at hf
    have e : (prs l)[j]? = some ((flatK encP 2 d)[j]!) := by
      rw [← hf, Array.getElem?_toList, Array.getElem?_eq_getElem hj, getElem!_pos _ j hj]
    refine ⟨?_, ?_⟩
    · rw [Nat.zero_add]
      exact hw.cellAt i hi rfl e
    · exact hw.openAt i (0 + j) hi rfl rfl
  have hcmp : CmpLays P g cb (encP (l := l)) 2 (fun x y => cmp x.1 y.1) blk 0 d.size w := by
    intro m' os dk hdk x y
    have hW : w.heap.size ≤ (sortWorldK (encP (l := l)) 2 w blk 0 m' dk os).heap.size := by
      unfold sortWorldK
      rw [size_grow]
      unfold putRowK
      rw [Go.Sort.size_putRow]
      exact Nat.le_add_right _ _
    have hk : ∀ k, k < w.heap.size → (∀ a : Addr, some (⟨blk, 0, none⟩ : Addr) = some a → a.block ≠ k) → (sortWorldK (encP (l := l)) 2 w blk 0 m' dk os).heap[k]? = w.heap[k]? := by
      intro k hk hne
      have hbk : blk ≠ k := hne _ rfl
      unfold sortWorldK
      rw [heap_grow_old _ _ (by unfold putRowK; rw [Go.Sort.size_putRow]; exact hk)]
      simp [putRowK, putRow, mapBlock, Array.getElem?_modify, hbk, Sort.ahead]
    refine (hclo _ (hw.but (W := sortWorldK (encP (l := l)) 2 w blk 0 m' dk os) hi rfl rfl rfl (by show w.drawn ≤ w.drawn + m'; omega) hW hk) x.1 x.2 y.1 y.2 _ (Hp.refl _)).mono ?_
    rintro e w' ⟨v, R', rfl, hh, rfl⟩
    exact ⟨rfl, grown_eq hh.below hh.late.1⟩
  have hO' : SWO (ltOf fun (x y : { p : Int × Int // p ∈ l }) => cmp x.1 y.1) := ⟨fun x => hO.irrefl x.1, fun x y z => hO.trans x.1 y.1 z.1, fun x y z => hO.ntrans x.1 y.1 z.1⟩
  have hcall := hSF _ encP (fun _ => rfl) (fun x v hv => by simp [encP] at hv; rcases hv with rfl | rfl <;> rfl) _ hO' blk 0 c d w hcmp hH hlt (by rw [hds]; exact hsz)
  rw [hds, ← hm] at hcall
  refine hcall.mono ?_
  rintro e w' ⟨rfl, d', n, os, ⟨hs', _, hperm⟩, hsort, rfl⟩
  have hd's : d'.size = l.length := by rw [hs', hds]
  refine ⟨_, _, rfl, ?_, rfl, d'.toList.map Subtype.val, ?_, ?_, rfl⟩
  · have hheap : (sortWorldK encP 2 w blk 0 n d' os).heap[blk]? = some (.cells (putCells id 0 (flatK encP 2 d') cur) T (0, 0)) := by
      unfold sortWorldK
      rw [heap_grow_old _ _ (by unfold putRowK; rw [Go.Sort.size_putRow]; exact hlt)]
      simp [putRowK, putRow, mapBlock, Array.getElem?_modify, Sort.ahead, hg, onCells]
    refine hw.upd hi (row := some blk) ⟨rfl, rfl, rfl, ?_, fun k hk hne => ?_⟩ ?_ (fun k hk => ?_) ?_ (fun a' ha' => .inl ⟨a', ha', rfl⟩)
    · unfold sortWorldK
      rw [size_grow]
      unfold putRowK
      rw [Go.Sort.size_putRow]
      exact Nat.le_add_right _ _
    · have hbk : blk ≠ k := fun e => hne (by rw [e])
      unfold sortWorldK
      rw [heap_grow_old _ _ (by unfold putRowK; rw [Go.Sort.size_putRow]; exact hk)]
      simp [putRowK, putRow, mapBlock, Array.getElem?_modify, hbk, Sort.ahead]
    · show w.drawn ≤ w.drawn + n
      omega
    · obtain rfl := Option.some.inj hk
      exact ⟨_, rfl, rfl⟩
    · unfold Row.lies
      simp only
      refine ⟨by rw [prs_length, List.length_map, Array.length_toList, hd's, hm], .inr ⟨blk, c, _, rfl, hb, hheap, hnc, hcm, ?_, ?_⟩⟩
      · simp only [putCells, Array.size_mapIdx]
        exact hcs
      · have hf := flatK_prs d'
        rw [← hf]
        have hfs : (flatK encP 2 d').size = m * 2 := by rw [size_flatK, hd's, hm]
        apply List.ext_getElem?
        intro t
        rw [List.getElem?_take]
        split
        · rename_i htm
          have htc : t < cur.size := by
            have : m * 2 ≤ c * 2 := Nat.mul_le_mul_right _ hnc
            omega
          rw [Array.getElem?_toList, Array.getElem?_toList, Array.getElem?_eq_getElem (by simp [putCells]; exact htc), Array.getElem?_eq_getElem (by rw [hfs]; exact htm)]
          simp only [putCells, Array.getElem_mapIdx, id]
          rw [if_pos ⟨Nat.zero_le _, by rw [Nat.zero_add, hfs]; exact htm⟩, Nat.sub_zero, getElem!_pos _ t (by rw [hfs]; exact htm)]
        · rename_i htm
          rw [List.getElem?_eq_none (by rw [Array.length_toList, hfs]; omega)]
  · have e1 : (d'.extract 0 m).toList = d'.toList := by rw [show m = d'.size by omega]; simp
    have e2 : (d.extract 0 m).toList = d.toList := by rw [show m = d.size by omega]; simp
    rw [e1, e2] at hperm
    have := hperm.map Subtype.val
    rwa [hdv] at this
  · refine List.pairwise_map.2 (List.pairwise_iff_getElem.2 fun a b ha hb' hab => ?_)
    rw [Array.length_toList] at ha hb'
    have h1 := hsort a b (Nat.zero_le _) hab (by omega)
    rw [getElem!_pos d' a ha, getElem!_pos d' b hb'] at h1
    simp only [ltOf, decide_eq_false_iff_not] at h1
    simpa using h1
end
end Go.Eng

/-! ## E21 -/
namespace Go.Eng
open Go Go.RowKit
section
variable {B : Nat} {w0 w w' : World} {R R' : List Row}
end
def mark (D : Nat) : Deferred := { target := .collected D, args := #[] }
section
variable {P : Program} {n : Nd} {B : Nat} {w0 w00 : World} {F : Exit → Act → World → Prop} {L : Env} {R : List Row}
def V (P : Program) (n : Nd) (B : Nat) (w0 : World) (c : Code) (F : Exit → Act → World → Prop) (L : Env) (R : List Row) : Prop :=
  ∀ a w, Sat n L a → Hp B w0 w R → c.wpIn (NF n.rd) 0 P F a w
def FQ (F : Exit → Act → World → Prop) (n : Nd) (B : Nat) (w0 : World) : PostC :=
  ⟨fun L R => ∀ a w, Sat n L a → Hp B w0 w R → F .normal a w, fun L R => ∀ a w, Sat n L a → Hp B w0 w R → F .ret a w, fun i L R => ∀ a w, Sat n L a → Hp B w0 w R → F (.exit i) a w⟩
/-- What stands behind is met. -/
def VN (n : Nd) (B : Nat) (w0 : World) (F : Exit → Act → World → Prop) (L : Env) (R : List Row) : Prop := ∀ a w, Sat n L a → Hp B w0 w R → F .normal a w
/-- The slots of a round. -/
def prm : List Nat → List Value → Env → Env
  | p :: ps, v :: vs, L => prm ps vs ((p, v) :: L)
  | _, _, L => L
/-- An iterator without an end ahead: N elements, one by one; it reads what Rdy says. -/
def Iter (P : Program) (gf : Nat) (lb : Array Value) (Rdy : World → Prop) (N : Nat) (f : Nat → List Value) : Prop :=
  ∀ (l : Nat) (J : Nat → World → Prop) (W : World), (∀ k W, J k W → Rdy W) →
    (∀ k W, k < N → J k W → YieldAt Fence.wide 0 P l (f k).toArray W fun e W' => e = .returned (.bool true) ∧ J (k + 1) W') →
    J 0 W → CallsIn Fence.wide 0 P gf (#[.func (.yield l) #[] #[]] ++ lb) W fun e W' => (∃ v, e = .returned v) ∧ J N W'
/-- Where a function stands behind loops over functions: the base is a later world, in which the marks' blocks lie. -/
structure Gd (B : Nat) (w00 : World) (n : Nd) (w0 : World) : Prop where
  below : Below B w00 w0
  late : Late w00 w0
  nodup : n.ds.Nodup
  marks : ∀ d ∈ n.ds, ∃ D, d = mark D ∧ B ≤ D ∧ w00.heap.size ≤ D ∧ w0.heap[D]? = some (.deferred (some []))
def Fin (P : Program) (fn : Func) (B : Nat) (w00 : World) (Post : Value → List Row → Prop) : Exit → Act → World → Prop :=
  bodyPostM Fence.wide 0 P fn fun e w' => ∃ v R', e = .returned v ∧ Hp B w00 w' R' ∧ Post v R'
end
end Go.Eng

/-! ## E24 -/
namespace Go.Eng
open Go Go.RowKit
section
variable {P : Program} {n : Nd} {B : Nat} {w0 w00 : World} {F : Exit → Act → World → Prop} {L : Env} {R : List Row}
/-- What the slices of a row lead to, whatever the world in which these rows lie. -/
def SlR (k : IntKind) (Rs : List Row) (vals : List Value) (ls : List (List Int)) : Prop := vals.length = ls.length ∧ ∀ j : Nat, j < ls.length → ∃ (A : Option Addr) (c : Nat), vals[j]? = some (.slice A (ls.getD j []).length c) ∧ ∀ (B : Nat) (w0 w : World), Hp B w0 w Rs → Rd w A (ls.getD j []).length c 1 (ints k (ls.getD j []))
theorem SlR.snoc {k : IntKind} {Rs : List Row} {vals : List Value} {ls : List (List Int)} {A : Option Addr} {n c e : Nat} {l : List Int} {ro : Bool} (h : SlR k Rs vals ls) (hn : n = l.length) : SlR k (⟨e, 1, A, n, c, ints k l, ro⟩ :: Rs) (vals ++ [.slice A n c]) (ls ++ [l]) := by
  subst hn
  refine ⟨by simp [h.1], fun j hj => ?_⟩
  rcases Nat.lt_or_ge j ls.length with g | g
  · obtain ⟨A', c', h1, h2⟩ := h.2 j g
    have e1 : (ls ++ [l]).getD j [] = ls.getD j [] := by
      rw [List.getD_eq_getElem?_getD, List.getD_eq_getElem?_getD, List.getElem?_append_left g]
    rw [e1]
    exact ⟨A', c', by rw [List.getElem?_append_left (by rw [h.1]; exact g)]; exact h1, fun B w0 w hw => h2 B w0 w hw.tail⟩
  · have hjl : j = ls.length := by simp at hj; omega
    subst hjl
    have e1 : (ls ++ [l]).getD ls.length [] = l := by simp [List.getD_eq_getElem?_getD]
    rw [e1]
    refine ⟨A, c, by rw [← h.1]; simp, fun B w0 w hw => ?_⟩
    exact rdr (R := ⟨e, 1, A, l.length, c, ints k l, ro⟩ :: Rs) 0 rfl w hw
theorem Hp.left {w : World} {X T : List Row} (h : Hp B w0 w (X ++ T)) : Hp B w0 w X := h.sublist (List.sublist_append_left X T)
theorem Hp.toTail0 {w : World} {X Rs Y : List Row} (h : Hp B w0 w ((X ++ Rs) ++ Y)) : Hp B w0 w (X ++ (Y ++ Rs)) := by
  refine h.perm ?_
  rw [List.append_assoc]
  exact List.Perm.append_left X List.perm_append_comm
end
end Go.Eng

/-! ## E26 -/
namespace Go.Eng
open Go Go.RowKit Go.Proofs Go.Sort
section
variable {P : Program} {B : Nat} {w0 : World} {R : List Row}
/-- What the kit's contract says at elements of k cells; at none; at elements of one cell. -/
def SortsK (P : Program) (f g : Nat) (cb : Array Value) (k : Nat) : Prop :=
  ∀ (α : Type) [Inhabited α] (enc : α → List Value) (_ : ∀ x, (enc x).length = k) (_ : ∀ x, ∀ v ∈ enc x, v.oneCell' = true) (cf : α → α → Int) (_ : SWO (ltOf cf)) (blk off cap : Nat) (d : Array α) (w : World)
    (_ : CmpLays P g cb enc k cf blk off d.size w) (_ : HoldsK enc k w blk off d) (_ : blk < w.heap.size) (_ : d.size < 4611686018427387904),
    Calls P f #[.slice (some ⟨blk, off, none⟩) d.size cap, .func (.func g) #[] cb] w fun e w' => e = .returned (.tuple #[]) ∧ ∃ d' n os, PermIn 0 d.size d d' ∧ SortedIn (ltOf cf) 0 d.size d' ∧ w' = sortWorldK enc k w blk off n d' os
def SortsC (P : Program) (f g : Nat) (cb : Array Value) : Prop :=
  ∀ (α : Type) [Inhabited α] (enc : α → Value) (_ : OneCell enc) (cf : α → α → Int) (_ : SWO (ltOf cf)) (blk off cap : Nat) (d : Array α) (w : World)
    (_ : CmpLays1 P g cb enc cf blk off d.size w) (_ : Holds enc w blk off d) (_ : blk < w.heap.size) (_ : d.size < 4611686018427387904),
    Calls P f #[.slice (some ⟨blk, off, none⟩) d.size cap, .func (.func g) #[] cb] w fun e w' => e = .returned (.tuple #[]) ∧ ∃ d' n os, PermIn 0 d.size d d' ∧ SortedIn (ltOf cf) 0 d.size d' ∧ w' = sortWorld enc w blk off n d' os
def SortsNone (P : Program) (f : Nat) : Prop := ∀ (p : Option Addr) (cap : Nat) (fv : Value) (w : World), Calls P f #[.slice p 0 cap, fv] w fun e w' => e = .returned (.tuple #[]) ∧ w' = w
/-- A row put anew. -/
theorem Hp.putRow {w : World} (hw : Hp B w0 w R) {i T k m c blk : Nat} {vs : List Value} (hi : R[i]? = some ⟨T, k, some ⟨blk, 0, none⟩, m, c, vs, false⟩) (xs : Array Value) (hxs : xs.size = m * k) (n : Nat) (os : Array Obj) :
    Hp B w0 (grow (putRow id (Sort.ahead w n) blk 0 xs) os) (R.set i ⟨T, k, some ⟨blk, 0, none⟩, m, c, xs.toList, false⟩) ∧ Hp B w0 (grow (putRow id (Sort.ahead w n) blk 0 xs) os) (R.eraseIdx i) := by
  have hown := Row.lies_w (hw.own _ (List.mem_of_getElem? hi)) rfl
  rcases hown.2 with ⟨hv, hn⟩ | ⟨g, cap, cur, hv, hb, hg, hnc, hcm, hcs, ht⟩
  · simp at hv
  simp only [Value.slice.injEq, Option.some.injEq, Addr.mk.injEq, and_true, true_and] at hv
  obtain ⟨rfl, rfl⟩ := hv
  simp only at ht hcs hg hnc hb
  have hlt : blk < w.heap.size := (Array.getElem?_eq_some_iff.1 hg).1
  have hsz : w.heap.size ≤ (grow (Go.Sort.putRow id (Sort.ahead w n) blk 0 xs) os).heap.size := by
    rw [size_grow, Go.Sort.size_putRow]
    exact Nat.le_add_right _ _
  have hk : ∀ k, k < w.heap.size → blk ≠ k → (grow (Go.Sort.putRow id (Sort.ahead w n) blk 0 xs) os).heap[k]? = w.heap[k]? := by
    intro k hk hbk
    rw [heap_grow_old _ _ (by rw [Go.Sort.size_putRow]; exact hk)]
    simp [Go.Sort.putRow, mapBlock, Array.getElem?_modify, hbk, Sort.ahead]
  have hheap : (grow (Go.Sort.putRow id (Sort.ahead w n) blk 0 xs) os).heap[blk]? = some (.cells (putCells id 0 xs cur) T (0, 0)) := by
    rw [heap_grow_old _ _ (by rw [Go.Sort.size_putRow]; exact hlt)]
    simp [Go.Sort.putRow, mapBlock, Array.getElem?_modify, Sort.ahead, hg, onCells]
  refine ⟨?_, hw.but hi rfl rfl rfl (by show w.drawn ≤ w.drawn + n; omega) hsz fun k h1 h2 => hk k h1 (h2 _ rfl)⟩
  refine hw.upd hi (row := some blk) ⟨rfl, rfl, rfl, hsz, fun k h1 hne => hk k h1 fun e => hne (by rw [e])⟩ ?_ (fun k hk => ?_) ?_ (fun a' ha' => .inl ⟨a', ha', rfl⟩)
  · show w.drawn ≤ w.drawn + n
    omega
  · obtain rfl := Option.some.inj hk
    exact ⟨_, rfl, rfl⟩
  · unfold Row.lies
    simp only
    refine ⟨by rw [Array.length_toList, hxs], .inr ⟨blk, c, _, rfl, hb, hheap, hnc, hcm, ?_, ?_⟩⟩
    · simp only [putCells, Array.size_mapIdx]
      exact hcs
    · apply List.ext_getElem?
      intro t
      rw [List.getElem?_take]
      split
      · rename_i htm
        have htc : t < cur.size := by
          have : m * k ≤ c * k := Nat.mul_le_mul_right _ hnc
          omega
        rw [Array.getElem?_toList, Array.getElem?_toList, Array.getElem?_eq_getElem (by simp [putCells]; exact htc), Array.getElem?_eq_getElem (by rw [hxs]; exact htm)]
        simp only [putCells, Array.getElem_mapIdx, id]
        rw [if_pos ⟨Nat.zero_le _, by rw [Nat.zero_add, hxs]; exact htm⟩, Nat.sub_zero, getElem!_pos _ t (by rw [hxs]; exact htm)]
      · rename_i htm
        rw [List.getElem?_eq_none (by rw [Array.length_toList, hxs]; omega)]
theorem flatK_list {α : Type} [Inhabited α] {enc : α → List Value} {k : Nat} (hk : ∀ x, (enc x).length = k) (d : Array α) : (flatK enc k d).toList = d.toList.flatMap enc := by
  have hlen : ∀ l : List α, (l.flatMap enc).length = l.length * k := fun l => by
    induction l with
    | nil => simp
    | cons x l ih => rw [List.flatMap_cons, List.length_append, ih, hk, List.length_cons, Nat.add_mul]; omega
  have hget : ∀ (l : List α) (t : Nat) (x : α), 0 < k → l[t / k]? = some x → (l.flatMap enc)[t]? = (enc x)[t % k]? := fun l => by
    induction l with
    | nil => intro t x _ h; simp at h
    | cons y l ih =>
      intro t x k0 h
      rw [List.flatMap_cons]
      rcases Nat.lt_or_ge t k with g | g
      · rw [Nat.div_eq_of_lt g] at h
        simp only [List.getElem?_cons_zero, Option.some.injEq] at h
        subst h
        rw [List.getElem?_append_left (by rw [hk]; exact g), Nat.mod_eq_of_lt g]
      · have e : t / k = (t - k) / k + 1 := by
          rw [← Nat.sub_add_cancel g, Nat.add_div_right _ k0]
          simp
        rw [e, List.getElem?_cons_succ] at h
        rw [List.getElem?_append_right (by rw [hk]; exact g), hk, ih (t - k) x k0 h, ← Nat.mod_eq_sub_mod g]
  apply List.ext_getElem?
  intro t
  have hs : (flatK enc k d).size = d.size * k := size_flatK _ _ _
  rcases Nat.lt_or_ge t (d.size * k) with h | h
  · have k0 : 0 < k := Nat.pos_of_ne_zero fun e => by subst e; simp at h
    have hdk : t / k < d.size := Nat.div_lt_of_lt_mul (by rw [Nat.mul_comm]; exact h)
    have e1 : (flatK enc k d)[t]? = some ((flatK enc k d)[t]!) := by
      rw [Array.getElem?_eq_getElem (by rw [hs]; exact h), getElem!_pos _ t (by rw [hs]; exact h)]
    rw [Array.getElem?_toList, e1, get_flatK enc k d t h, hget d.toList t d[t / k] k0 (by rw [Array.getElem?_toList, Array.getElem?_eq_getElem hdk]), getElem!_pos d _ hdk]
    have hm : t % k < (enc d[t / k]).length := by rw [hk]; exact Nat.mod_lt _ k0
    rw [List.getElem?_eq_getElem hm, getElem!_pos (enc d[t / k]) (t % k) hm]
  · rw [List.getElem?_eq_none (by rw [Array.length_toList, hs]; exact h), List.getElem?_eq_none (by rw [hlen, Array.length_toList]; exact h)]
theorem flat_len {α : Type} {enc : α → List Value} {k : Nat} (hk : ∀ x, (enc x).length = k) (l : List α) : (l.flatMap enc).length = l.length * k := by
  induction l with
  | nil => simp
  | cons x l ih => rw [List.flatMap_cons, List.length_append, ih, hk, List.length_cons, Nat.add_mul]; omega
theorem perm_of_permIn {α : Type} [Inhabited α] {d d' : Array α} (h : PermIn 0 d.size d d') : d'.toList.Perm d.toList := by
  obtain ⟨hs, _, hp⟩ := h
  have e1 : (d'.extract 0 d.size).toList = d'.toList := by rw [← hs]; simp
  have e2 : (d.extract 0 d.size).toList = d.toList := by simp
  rw [e1, e2] at hp
  exact hp
theorem sortedIn_list {α : Type} [Inhabited α] {cf : α → α → Int} {d' : Array α} {n : Nat} (h : SortedIn (ltOf cf) 0 n d') (hn : d'.size = n) : d'.toList.Pairwise fun x y => ¬ cf y x < 0 := by
  refine List.pairwise_iff_getElem.2 fun a b ha hb' hab => ?_
  rw [Array.length_toList] at ha hb'
  have h1 := h a b (Nat.zero_le _) hab (by omega)
  rw [getElem!_pos d' a ha, getElem!_pos d' b hb'] at h1
  simp only [ltOf, decide_eq_false_iff_not] at h1
  simpa using h1
theorem nil_row {w : World} (hw : Hp B w0 w R) {i T k c : Nat} {A : Option Addr} {vs : List Value} (hi : R[i]? = some ⟨T, k, A, 0, c, vs, false⟩) : R.set i ⟨T, k, A, 0, c, [], false⟩ = R ∧ vs = [] := by
  have hown := Row.lies_w (hw.own _ (List.mem_of_getElem? hi)) rfl
  have hl := hown.1
  simp only [Nat.zero_mul] at hl
  obtain rfl := List.eq_nil_of_length_eq_zero hl
  refine ⟨?_, rfl⟩
  apply List.ext_getElem?
  intro j
  rw [List.getElem?_set]
  split
  · rename_i h
    subst h
    split
    · exact hi.symm
    · rename_i h2
      rw [List.getElem?_eq_none (by omega)]
  · rfl
/-- slices.SortFunc over elements of some cells. -/
theorem sort_cells {α : Type} {f g k : Nat} {cb : Array Value} {enc : α → List Value} (hSF : SortsK P f g cb k) (hS0 : SortsNone P f) (hk : ∀ x, (enc x).length = k) (h1 : ∀ x, ∀ v ∈ enc x, v.oneCell' = true) {T c : Nat} {A : Option Addr} {l : List α} (i : Nat) (hi : R[i]? = some ⟨T, k, A, l.length, c, l.flatMap enc, false⟩) (hsz : l.length < 4611686018427387904) (cmp : α → α → Int) (hO : SWO (ltOf cmp))
    (hclo : ∀ W, Hp B w0 W (R.eraseIdx i) → ∀ x ∈ l, ∀ y ∈ l,
      Ct P g (#[.agg (enc x).toArray, .agg (enc y).toArray] ++ cb) W.heap.size W [] (fun v _ => v = .int .i64 (cmp x y))) :
    Ct P f #[.slice A l.length c, .func (.func g) #[] cb] B w0 R (fun v R' => v = .tuple #[] ∧ ∃ l' : List α, l'.Perm l ∧ l'.Pairwise (fun x y => ¬ cmp y x < 0) ∧ R' = R.set i ⟨T, k, A, l'.length, c, l'.flatMap enc, false⟩) := by
  intro w hw
  rcases l with _ | ⟨x0, l0⟩
  · refine (hS0 A c _ w).mono ?_
    rintro e w' ⟨rfl, rfl⟩
    obtain ⟨h1, h2⟩ := nil_row hw hi
    exact ⟨_, _, rfl, hw, rfl, [], .refl _, .nil, h1.symm⟩
  generalize hl : x0 :: l0 = l at *
  have hpos : 0 < l.length := by rw [← hl]; simp
  have hown := Row.lies_w (hw.own _ (List.mem_of_getElem? hi)) rfl
  rcases hown.2 with ⟨_, hn⟩ | ⟨blk, cap, cur, hv, hb, hg, hnc, hcm, hcs, ht⟩
  · simp only at hn; omega
  simp only [Value.slice.injEq, true_and] at hv
  obtain ⟨rfl, rfl⟩ := hv
  simp only at ht hcs hg hnc
  haveI : Inhabited { p : α // p ∈ l } := ⟨⟨l[0], List.getElem_mem _⟩⟩
  obtain ⟨d, hd⟩ : ∃ d : Array { p : α // p ∈ l }, d = l.attach.toArray := ⟨_, rfl⟩
  have hds : d.size = l.length := by rw [hd]; simp
  have hdv : d.toList.map Subtype.val = l := by rw [hd]; exact List.attach_map_subtype_val l
  have hk2 : ∀ x : { p : α // p ∈ l }, (enc x.1).length = k := fun x => hk x.1
  have hfm : ∀ e : List { p : α // p ∈ l }, e.flatMap (fun x => enc x.1) = (e.map Subtype.val).flatMap enc := fun e => by rw [List.flatMap_map]
  have hlt : blk < w.heap.size := (Array.getElem?_eq_some_iff.1 hg).1
  have hH : HoldsK (fun x : { p : α // p ∈ l } => enc x.1) k w blk 0 d := by
    intro j hj
    have hj' : j < l.length * k := by
      have : j < (flatK (fun x : { p : α // p ∈ l } => enc x.1) k d).size := hj
      rw [size_flatK, hds] at this
      exact this
    have hf := flatK_list hk2 d
    rw [hfm, hdv] at hf
    have e : (l.flatMap enc)[j]? = some ((flatK (fun x : { p : α // p ∈ l } => enc x.1) k d)[j]!) := by
      rw [← hf, Array.getElem?_toList, Array.getElem?_eq_getElem hj, getElem!_pos _ j hj]
    refine ⟨?_, ?_⟩
    · rw [Nat.zero_add]
      exact hw.cellAt i hi rfl e
    · exact hw.openAt i (0 + j) hi rfl rfl
  have hcmp : CmpLays P g cb (fun x : { p : α // p ∈ l } => enc x.1) k (fun x y => cmp x.1 y.1) blk 0 d.size w := by
    intro m' os dk hdk x y
    have hW := (hw.putRow hi (flatK (fun x : { p : α // p ∈ l } => enc x.1) k dk) (by rw [size_flatK, hdk, hds]) m' os).2
    refine (hclo (sortWorldK (fun x : { p : α // p ∈ l } => enc x.1) k w blk 0 m' dk os) hW x.1 x.2 y.1 y.2 _ (Hp.refl _)).mono ?_
    rintro e w' ⟨v, R', rfl, hh, rfl⟩
    exact ⟨rfl, grown_eq hh.below hh.late.1⟩
  have hO' : SWO (ltOf fun (x y : { p : α // p ∈ l }) => cmp x.1 y.1) := ⟨fun x => hO.irrefl x.1, fun x y z => hO.trans x.1 y.1 z.1, fun x y z => hO.ntrans x.1 y.1 z.1⟩
  have hcall := hSF _ (fun x : { p : α // p ∈ l } => enc x.1) hk2 (fun x => h1 x.1) _ hO' blk 0 c d w hcmp hH hlt (by rw [hds]; exact hsz)
  rw [hds] at hcall
  refine hcall.mono ?_
  rintro e w' ⟨rfl, d', n, os, hperm, hsort, rfl⟩
  rw [← hds] at hperm
  have hd's : d'.size = l.length := by rw [hperm.1, hds]
  have hW := (hw.putRow hi (flatK (fun x : { p : α // p ∈ l } => enc x.1) k d') (by rw [size_flatK, hd's]) n os).1
  rw [flatK_list hk2, hfm] at hW
  have hp' : (d'.toList.map Subtype.val).Perm l := by
    have := (perm_of_permIn hperm).map Subtype.val
    rwa [hdv] at this
  refine ⟨_, _, rfl, hW, rfl, d'.toList.map Subtype.val, hp', ?_, ?_⟩
  · exact List.pairwise_map.2 (sortedIn_list hsort hd's)
  · rw [hp'.length_eq]
end
end Go.Eng

/-! ## E16 -/
namespace Go.Eng
open Go Go.RowKit
theorem Rd.fromI {w : World} {A : Option Addr} {m c l : Nat} {k : IntKind} {xs : List Int} (hr : Rd w A m c 1 (ints k xs)) (h1 : l ≤ m) : Rd w (cutA A l c 1) (m - l) (c - l) 1 (ints k (xs.drop l)) :=
  RdC.fromI (hr.c []) h1 w (Hp.refl _)
theorem Rd.toI {w : World} {A : Option Addr} {m c h : Nat} {k : IntKind} {xs : List Int} (hr : Rd w A m c 1 (ints k xs)) (h2 : h ≤ m) : Rd w A h c 1 (ints k (xs.take h)) :=
  RdC.toI (hr.c []) h2 w (Hp.refl _)
theorem wf_byte {x : Int} (h : 0 ≤ x ∧ x < 256) : (Lit.int .u8 x).wf = true := by
  have h1 : IntKind.u8.min ≤ x := h.1
  have h2 : x ≤ IntKind.u8.max := by
    have : IntKind.u8.max = 255 := by decide
    omega
  simp [Lit.wf, h1, h2]
theorem SlW.snoc {k : IntKind} {w : World} {vals : List Value} {ls : List (List Int)} {A : Option Addr} {m c : Nat} {l : List Int} (h : SlW k w vals ls) (hr : Rd w A m c 1 (ints k l)) (hwf : ∀ x ∈ l, (Lit.int k x).wf = true) (hm : l.length ≤ 140737488355327) : SlW k w (vals ++ [.slice A m c]) (ls ++ [l]) := by
  obtain rfl := hr.lenI
  refine ⟨by rw [List.length_append, List.length_append, h.1]; rfl, fun j hj => ?_⟩
  rcases Nat.lt_or_ge j ls.length with a | a
  · obtain ⟨A', c', h1, h2, h3, h4⟩ := h.2 j a
    have e : (ls ++ [l]).getD j [] = ls.getD j [] := by
      rw [List.getD_eq_getElem?_getD, List.getD_eq_getElem?_getD, List.getElem?_append_left a]
    rw [e]
    exact ⟨A', c', by rw [List.getElem?_append_left (by rw [h.1]; exact a)]; exact h1, h2, h3, h4⟩
  · have hj' : j = ls.length := by rw [List.length_append] at hj; simp at hj; omega
    have e : (ls ++ [l]).getD j [] = l := by
      rw [List.getD_eq_getElem?_getD, hj', List.getElem?_append_right (Nat.le_refl _)]
      simp
    rw [e]
    refine ⟨A, c, ?_, hr, hwf, hm⟩
    rw [hj', ← h.1, List.getElem?_append_right (Nat.le_refl _)]
    simp
end Go.Eng

/-! ## Q11 -/
namespace Go.Pure
open Go Go.Eng
def turnL (ws : List (List Int)) (t : Int × Int) : List Int := (rdl ws t.1).drop t.2.toNat ++ (rdl ws t.1).take t.2.toNat
end Go.Pure

/-! ## Q13 -/
namespace Go.Pure
open Go Go.Eng
/-- How much the first k numbers come to. -/
def ps (L : List Int) (k : Int) : Int := (L.take k.toNat).sum
/-- The texts of these lengths, one behind the other. -/
def wordsK (s L : List Int) (k : Int) : List (List Int) := (List.range k.toNat).map fun i : Nat => (s.drop (ps L i).toNat).take (rd L i).toNat
theorem wordsK_len (s L : List Int) (k : Int) : (wordsK s L k).length = k.toNat := by simp [wordsK]
theorem rd_mem {L : List Int} {k : Int} (h0 : 0 ≤ k) (h : k < L.length) : rd L k ∈ L := by
  unfold rd
  rw [List.getD_eq_getElem?_getD, List.getElem?_eq_getElem (by omega)]
  exact List.getElem_mem _
/-- A text's factors. -/
def bws (s : List Int) : List (List Int) := wordsK s (facL s) (facL s).length
theorem all_len {ws : List (List Int)} {l : List (Int × Int)} (hp : l.Perm (tlist ws ws.length)) : l.length = ws.flatten.length := by
  rw [hp.length_eq, tlist_len ws _ (Nat.le_refl _)]
  unfold offs
  rw [List.take_length]
/-- The last byte of a rotation. -/
def lastB (ws : List (List Int)) (t : Int × Int) : Int := rd (rdl ws t.1) ((t.2 + (rdl ws t.1).length - 1) % ((rdl ws t.1).length : Int))
theorem lastB_mem {ws : List (List Int)} {t : Int × Int} (h : TV ws t) : lastB ws t ∈ ws.flatten := by
  obtain ⟨a, b, c, d⟩ := h
  have hn : (0 : Int) < (rdl ws t.1).length := by omega
  have h1 := Int.emod_nonneg (t.2 + (rdl ws t.1).length - 1) (Int.ne_of_gt hn)
  have h2 := Int.emod_lt_of_pos (t.2 + (rdl ws t.1).length - 1) hn
  exact List.mem_flatten.2 ⟨_, rdl_mem a b, rd_mem h1 h2⟩
theorem lastB_bytes {ws : List (List Int)} {l : List (Int × Int)} (hp : l.Perm (tlist ws ws.length)) (hb : ByteL ws.flatten) : ByteL (l.map (lastB ws)) := by
  intro x hx
  obtain ⟨t, ht, rfl⟩ := List.mem_map.1 hx
  exact hb _ (lastB_mem (mem_all.1 (hp.subset ht)))
/-- The order, by what can be worked out. -/
def ordB (ws : List (List Int)) (t u : Int × Int) : Bool := decide (cmpO (turnL ws t) (turnL ws u) < 0) || (decide (cmpO (turnL ws t) (turnL ws u) = 0) && (decide (t.1 < u.1) || (decide (t.1 = u.1) && decide (t.2 < u.2))))
theorem turnL_len {ws : List (List Int)} {t : Int × Int} (h : TV ws t) : 0 < (turnL ws t).length := by
  obtain ⟨a, b, c, d⟩ := h
  unfold turnL
  rw [List.length_append, List.length_drop, List.length_take]
  omega
theorem ordB_ord {ws : List (List Int)} {t u : Int × Int} (ht : TV ws t) (hu : TV ws u) (h : ordB ws t u = true) : ordO ws t u := by
  unfold ordB at h
  simp only [Bool.or_eq_true, Bool.and_eq_true, decide_eq_true_iff] at h
  rcases h with h | ⟨e, h⟩
  · exact .inl ((cmp_turn ht hu).1 h)
  · refine .inr ⟨fun i => ?_, h⟩
    have := (cmpO_zero (turnL_len ht) (turnL_len hu)).1 e i
    rw [show turnL ws t = (rdl ws t.1).drop t.2.toNat ++ (rdl ws t.1).take t.2.toNat from rfl, show turnL ws u = (rdl ws u.1).drop u.2.toNat ++ (rdl ws u.1).take u.2.toNat from rfl, om_tw ht, om_tw hu] at this
    exact this
/-- Which row of rotations is the one in order. -/
theorem the_order {ws : List (List Int)} {l m : List (Int × Int)} (hp : l.Perm (tlist ws ws.length)) (hs : l.Pairwise (ordO ws)) (hm : m.Perm (tlist ws ws.length)) (ho : m.Pairwise fun t u => ordB ws t u = true) : l = m := by
  refine one_order ordO_asymm (hp.trans hm.symm) hs ?_
  refine List.Pairwise.imp_of_mem (fun {a b} ha hb h => ordB_ord (mem_all.1 (hm.subset ha)) (mem_all.1 (hm.subset hb)) h) ho
end Go.Pure

/-! ## Q15 -/
namespace Go.Pure
open Go Go.Eng
theorem list_ext_rd {l m : List Int} (hl : l.length = m.length) (h : ∀ j : Int, 0 ≤ j → j < l.length → rd l j = rd m j) : l = m := by
  apply List.ext_getElem hl
  intro i h1 h2
  have := h i (by omega) (by omega)
  unfold rd at this
  rw [Int.toNat_natCast, List.getD_eq_getElem?_getD, List.getD_eq_getElem?_getD, List.getElem?_eq_getElem h1, List.getElem?_eq_getElem h2] at this
  exact this
theorem rd_range {f : Nat → Int} {n : Nat} {i : Int} (h0 : 0 ≤ i) (h : i < n) : rd ((List.range n).map f) i = f i.toNat := by
  unfold rd
  rw [List.getD_eq_getElem?_getD, List.getElem?_map, List.getElem?_range (by omega)]
  rfl
/-- How often each number stands there. -/
def cntV (ks : List Int) (k : Int) : List Int := (List.range k.toNat).map fun c : Nat => ((ks.filter fun x => decide (x = (c : Int))).length : Int)
/-- How many there are ahead of each. -/
def startsV (cs : List Int) : List Int := (List.range cs.length).map fun i : Nat => ps cs i
/-- Those of an order that have this key. -/
def ofKey (order keys : List Int) (c : Int) : List Int := order.filter fun i => decide (rd keys i = c)
def passK (order keys : List Int) : Nat → List Int
  | 0 => []
  | c + 1 => passK order keys c ++ ofKey order keys c
theorem passK_perm {order keys : List Int} {k : Nat} (hk : ∀ i ∈ order, 0 ≤ rd keys i ∧ rd keys i < k) : (passK order keys k).Perm order := by
  have gen : ∀ c : Nat, (passK order keys c).Perm (order.filter fun i => decide (0 ≤ rd keys i ∧ rd keys i < c)) := by
    intro c
    induction c with
    | zero =>
      have : (order.filter fun i => decide (0 ≤ rd keys i ∧ rd keys i < (0 : Nat))) = [] := by
        rw [List.filter_eq_nil_iff]
        intro i _
        simp only [decide_eq_true_eq]
        omega
      rw [this]
      exact .refl _
    | succ c ih =>
      rw [passK]
      refine (ih.append_right _).trans ?_
      unfold ofKey
      have e : order.filter (fun i => decide (rd keys i = (c : Int))) = (order.filter fun i => decide (0 ≤ rd keys i ∧ rd keys i < (c + 1 : Nat))).filter (fun i => ! decide (0 ≤ rd keys i ∧ rd keys i < (c : Int))) := by
        rw [List.filter_filter]
        refine List.filter_congr fun i _ => ?_
        by_cases h : rd keys i = (c : Int)
        · rw [decide_eq_true h, decide_eq_true (show 0 ≤ rd keys i ∧ rd keys i < ((c + 1 : Nat) : Int) by omega), decide_eq_false (show ¬ (0 ≤ rd keys i ∧ rd keys i < (c : Int)) by omega)]
          rfl
        · rw [decide_eq_false h]
          by_cases h2 : 0 ≤ rd keys i ∧ rd keys i < (c : Int)
          · rw [decide_eq_true h2]; simp
          · rw [decide_eq_false (show ¬ (0 ≤ rd keys i ∧ rd keys i < ((c + 1 : Nat) : Int)) by omega)]; simp
      have e2 : order.filter (fun i => decide (0 ≤ rd keys i ∧ rd keys i < (c : Nat))) = (order.filter fun i => decide (0 ≤ rd keys i ∧ rd keys i < (c + 1 : Nat))).filter (fun i => decide (0 ≤ rd keys i ∧ rd keys i < (c : Int))) := by
        rw [List.filter_filter]
        refine List.filter_congr fun i _ => ?_
        by_cases h2 : 0 ≤ rd keys i ∧ rd keys i < (c : Int)
        · rw [decide_eq_true h2, decide_eq_true (show 0 ≤ rd keys i ∧ rd keys i < ((c + 1 : Nat) : Int) by omega)]; rfl
        · rw [decide_eq_false h2]; rfl
      rw [e, e2]
      exact List.filter_append_perm _ _
  have := gen k
  rwa [List.filter_eq_self.2 (fun i hi => by rw [decide_eq_true_iff]; exact hk i hi)] at this
/-- The loop that lays them out: what it keeps. -/
structure PassI (order keys at_ l : List Int) (k : Int) (m : Int) : Prop where
  len : l.length = order.length
  alen : at_.length = k.toNat
  at_ : ∀ c : Int, 0 ≤ c → c < k → rd at_ c = (passK order keys c.toNat).length + (ofKey (order.take m.toNat) keys c).length
  row : ∀ c : Int, 0 ≤ c → c < k → ∀ t : Int, 0 ≤ t → t < (ofKey (order.take m.toNat) keys c).length → rd l ((passK order keys c.toNat).length + t) = rd (ofKey (order.take m.toNat) keys c) t
/-- Two places of an order, sorted by their keys: by the key; then asx they stood. -/
theorem passK_sorted {order keys : List Int} {r : Int → Int → Prop} (ho : order.Pairwise r) : ∀ k : Nat, (passK order keys k).Pairwise fun x y => rd keys x < rd keys y ∨ rd keys x = rd keys y ∧ r x y
  | 0 => .nil
  | k + 1 => by
    rw [passK]
    refine List.pairwise_append.2 ⟨passK_sorted ho k, ?_, fun x hx y hy => ?_⟩
    · refine ((ho.sublist (List.filter_sublist ..)).imp_of_mem fun {x y} hx hy h => ?_ : (ofKey order keys k).Pairwise _)
      have h1 := (List.mem_filter.1 hx).2
      have h2 := (List.mem_filter.1 hy).2
      rw [decide_eq_true_iff] at h1 h2
      exact .inr ⟨by omega, h⟩
    · have h2 := (List.mem_filter.1 hy).2
      rw [decide_eq_true_iff] at h2
      have : ∀ c : Nat, ∀ z ∈ passK order keys c, rd keys z < c := by
        intro c
        induction c with
        | zero => intro z hz; cases hz
        | succ c ih =>
          intro z hz
          rw [passK] at hz
          rcases List.mem_append.1 hz with hz | hz
          · have := ih z hz; omega
          · have h3 := (List.mem_filter.1 hz).2
            rw [decide_eq_true_iff] at h3
            omega
      have := this k x hx
      exact .inl (by omega)
end Go.Pure

/-! ## Q37 -/
namespace Go.Pure
open Go Go.Eng
def Bd (u : List Int) (n k : Nat) : Prop := k < n ∧ ∀ e, e < k → lt u e = lt u (n - k + e)
def MB (u : List Int) (n : Nat) (k : Int) : Prop := 0 ≤ k ∧ Bd u n k.toNat ∧ ∀ q : Nat, Bd u n q → (q : Int) ≤ k
def KI (u : List Int) (i : Nat) (n : Int) : Prop := 0 ≤ n ∧ Bd u i n.toNat ∧ ∀ q : Nat, Bd u i q → n < q → lt u q ≠ lt u i
variable {u : List Int}
theorem MB.one : MB u 1 0 := ⟨by omega, ⟨by omega, fun e he => by simp at he⟩, fun q h => by have := h.1; omega⟩
theorem MB.bd {n : Nat} {k : Int} (h : MB u n k) : 0 ≤ k ∧ k < n := ⟨h.1, by have := h.2.1.1; have := h.1; omega⟩
theorem KI.bd {n : Nat} {k : Int} (h : KI u n k) : 0 ≤ k ∧ k < n := ⟨h.1, by have := h.2.1.1; have := h.1; omega⟩
theorem KI.init {i : Nat} {n : Int} (h : MB u i n) : KI u i n := ⟨h.1, h.2.1, fun q hq hn => by have := h.2.2 q hq; omega⟩
theorem KI.step {i : Nat} {n m : Int} (h : KI u i n) (hne : lt u n.toNat ≠ lt u i) (hb : MB u n.toNat m) : KI u i m := by
  obtain ⟨h0, ⟨h1, h2⟩, h3⟩ := h
  obtain ⟨g0, ⟨g1, g2⟩, g3⟩ := hb
  refine ⟨g0, ⟨by omega, fun e he => ?_⟩, fun q hq hmq => ?_⟩
  · rw [g2 e he, h2 (n.toNat - m.toNat + e) (by omega)]
    congr 1
    omega
  · rcases Nat.lt_trichotomy q n.toNat with a | a | a
    · have : Bd u n.toNat q := ⟨a, fun e he => by
        rw [hq.2 e he, h2 (n.toNat - q + e) (by omega)]
        congr 1
        omega⟩
      have := g3 q this
      omega
    · subst a; exact hne
    · exact h3 q hq (by omega)
theorem KI.hit {i : Nat} {n : Int} (h : KI u i n) (he : lt u n.toNat = lt u i) : MB u (i + 1) (n + 1) := by
  obtain ⟨h0, ⟨h1, h2⟩, h3⟩ := h
  refine ⟨by omega, ⟨by omega, fun e hE => ?_⟩, fun q hq => ?_⟩
  · rcases Nat.lt_or_ge e n.toNat with a | a
    · rw [h2 e a]; congr 1; omega
    · obtain rfl : e = n.toNat := by omega
      rw [he]; congr 1; omega
  · rcases q with _ | q
    · omega
    · have hb : Bd u i q := ⟨by have := hq.1; omega, fun e hE => by rw [hq.2 e (by omega)]; congr 1; omega⟩
      have hl := hq.2 q (by omega)
      have := hq.1
      rw [show i + 1 - (q + 1) + q = i by omega] at hl
      rcases Int.lt_or_le n q with a | a
      · exact absurd hl (h3 q hb a)
      · omega
theorem KI.miss {i : Nat} {n : Int} (h : KI u i n) (hn : n ≤ 0) (he : lt u n.toNat ≠ lt u i) : MB u (i + 1) n := by
  obtain ⟨h0, ⟨h1, h2⟩, h3⟩ := h
  obtain rfl : n = 0 := by omega
  refine ⟨by omega, ⟨by omega, fun e hE => by simp at hE⟩, fun q hq => ?_⟩
  rcases q with _ | q
  · omega
  · have hb : Bd u i q := ⟨by have := hq.1; omega, fun e hE => by rw [hq.2 e (by omega)]; congr 1; omega⟩
    have hl := hq.2 q (by omega)
    have := hq.1
    rw [show i + 1 - (q + 1) + q = i by omega] at hl
    rcases Nat.eq_zero_or_pos q with a | a
    · subst a; exact absurd hl he
    · exact absurd hl (h3 q hb (by omega))
theorem bd_perL {n k : Nat} (hn : n = u.length) (hk : k < n) : Bd u n k ↔ PerL u (n - k) := by
  subst hn
  rw [perL_iff]
  constructor
  · intro h i hi
    have := h.2 i (by omega)
    unfold lt at this
    rw [this]; congr 1; omega
  · intro h
    refine ⟨hk, fun e he => ?_⟩
    have := h e (by omega)
    unfold lt
    rw [← this]; congr 1; omega
theorem MB.least {k : Int} (hn : 0 < u.length) (h : MB u u.length k) : (u.length : Int) - k = lp u := by
  obtain ⟨r, e, r1, r2, hp, hmin⟩ := lp_spec hn
  obtain ⟨k0, hb, hmax⟩ := h
  have hb1 := hb.1
  have h1 := hmax (u.length - r) ((bd_perL rfl (by omega)).2 (by rw [show u.length - (u.length - r) = r by omega]; exact hp))
  have h2 := (bd_perL rfl hb.1).1 hb
  rcases Nat.lt_or_ge (u.length - k.toNat) r with a | a
  · exact absurd h2 (hmin _ (by omega) a)
  · omega
theorem cmpL_anti : ∀ a b : List Int, cmpL b a = -cmpL a b
  | [], [] => rfl
  | [], _ :: _ => rfl
  | _ :: _, [] => rfl
  | x :: a, y :: b => by
    rw [cmpL, cmpL, cmpL_anti a b]
    split <;> split <;> omega
theorem cmpL_eq : ∀ a b : List Int, cmpL a b = 0 ↔ a = b
  | [], [] => by simp [cmpL]
  | [], _ :: _ => by simp [cmpL]
  | _ :: _, [] => by simp [cmpL]
  | x :: a, y :: b => by
    have ih := cmpL_eq a b
    rw [cmpL]
    split
    · simp; omega
    · split
      · simp; omega
      · rw [ih]; simp; omega
theorem cmpL_le : ∀ a b c : List Int, cmpL a b ≤ 0 → cmpL b c ≤ 0 → cmpL a c ≤ 0
  | [], [], _, _, h => h
  | [], _ :: _, [], _, h => by simp [cmpL] at h
  | [], _ :: _, _ :: _, _, _ => by simp [cmpL]
  | _ :: _, [], _, h, _ => by simp [cmpL] at h
  | _ :: _, _ :: _, [], _, h => by simp [cmpL] at h
  | x :: a, y :: b, z :: c, h1, h2 => by
    have ih := cmpL_le a b c
    rw [cmpL] at h1 h2 ⊢
    split at h1
    · split at h2
      · rw [if_pos (by omega)]; omega
      · split at h2
        · omega
        · rw [if_pos (by omega)]; omega
    · split at h1
      · omega
      · split at h2
        · rw [if_pos (by omega)]; omega
        · split at h2
          · omega
          · rw [if_neg (by omega), if_neg (by omega)]; exact ih h1 h2
abbrev RT := List Int × Int
def kcmp (a b : RT) : Int := if cmpL a.1 b.1 ≠ 0 then cmpL a.1 b.1 else cmpI a.2 b.2
theorem kcmp_anti (a b : RT) : kcmp b a = -kcmp a b := by
  unfold kcmp
  rw [cmpL_anti a.1 b.1, cmpI_anti a.2 b.2]
  split <;> split <;> omega
theorem kcmp_eq (a b : RT) : kcmp a b = 0 ↔ a = b := by
  unfold kcmp
  have h1 := cmpL_eq a.1 b.1
  have h2 := @cmpI_zero a.2 b.2
  rw [Prod.ext_iff]
  split
  · rename_i c
    constructor
    · intro h; exact absurd h c
    · intro h; exact absurd (h1.2 h.1) c
  · rename_i c
    rw [h2]
    constructor
    · intro h; exact ⟨h1.1 (by omega), h⟩
    · intro h; exact h.2
theorem cmpI_le {a b : Int} : cmpI a b ≤ 0 ↔ a ≤ b := by unfold cmpI; split <;> (try split) <;> omega
theorem kcmp_le_iff {a b : RT} : kcmp a b ≤ 0 ↔ cmpL a.1 b.1 < 0 ∨ a.1 = b.1 ∧ a.2 ≤ b.2 := by
  unfold kcmp
  have h1 := cmpL_eq a.1 b.1
  have h2 := @cmpI_le a.2 b.2
  split
  · rename_i c
    constructor
    · intro h; left; omega
    · rintro (h | h)
      · omega
      · exact absurd (h1.2 h.1) c
  · rename_i c
    rw [h2]
    constructor
    · intro h; exact .inr ⟨h1.1 (by omega), h⟩
    · rintro (h | h)
      · omega
      · exact h.2
theorem kcmp_le (a b c : RT) (h1 : kcmp a b ≤ 0) (h2 : kcmp b c ≤ 0) : kcmp a c ≤ 0 := by
  rw [kcmp_le_iff] at h1 h2 ⊢
  have h := cmpL_le a.1 b.1 c.1
  have e1 := cmpL_eq a.1 b.1
  have e2 := cmpL_eq b.1 c.1
  have e3 := cmpL_eq a.1 c.1
  rcases h1 with h1 | h1
  · rcases h2 with h2 | h2
    · have a1 := h (by omega) (by omega)
      rcases Int.lt_or_eq_of_le a1 with g | g
      · exact .inl g
      · have e := e3.1 g
        rw [e, cmpL_anti b.1 c.1] at h1
        omega
    · exact .inl (by rw [← h2.1]; exact h1)
  · rcases h2 with h2 | h2
    · exact .inl (by rw [h1.1]; exact h2)
    · exact .inr ⟨h1.1.trans h2.1, by omega⟩
theorem kcmp_sorted_one {l m : List RT} (hp : l.Perm m) (hl : l.Pairwise fun a b => kcmp a b ≤ 0) (hm : m.Pairwise fun a b => kcmp a b ≤ 0) : l = m :=
  hp.eq_of_pairwise (fun a b _ _ h1 h2 => (kcmp_eq a b).1 (by rw [kcmp_anti a b] at h2; omega)) hl hm
def lw (u : List Int) : List Int := turnS u (lrot u)
def rootW (c : List Int) : List Int := c.take (rl c).toNat
def timesW (c : List Int) : Int := (c.length : Int) / rl c
def ringOf (u : List Int) : RT := (rootW (lw u), timesW (lw u))
def ringsOf (ws : List (List Int)) : List RT := (ws.filter fun w => decide (0 < w.length)).map ringOf
def ringS (ws : List (List Int)) : List RT := (ringsOf ws).mergeSort fun a b => decide (kcmp a b ≤ 0)
def unring (r : RT) : List Int := rep r.1 r.2
def canon (ws : List (List Int)) : List (List Int) := (ringS ws).map unring
theorem ringS_perm (ws : List (List Int)) : (ringS ws).Perm (ringsOf ws) := List.mergeSort_perm _ _
theorem ringS_sorted (ws : List (List Int)) : (ringS ws).Pairwise fun a b => kcmp a b ≤ 0 := by
  have := List.pairwise_mergeSort (le := fun a b : RT => decide (kcmp a b ≤ 0)) (fun a b c h1 h2 => decide_eq_true (kcmp_le a b c (of_decide_eq_true h1) (of_decide_eq_true h2))) (fun a b => by
    rw [Bool.or_eq_true, decide_eq_true_eq, decide_eq_true_eq, kcmp_anti a b]; omega) (ringsOf ws)
  exact this.imp fun h => of_decide_eq_true h
theorem ringS_one {ws : List (List Int)} {l : List RT} (hp : l.Perm (ringsOf ws)) (hs : l.Pairwise fun a b => kcmp a b ≤ 0) : l = ringS ws := kcmp_sorted_one (hp.trans (ringS_perm ws).symm) hs (ringS_sorted ws)
theorem ringS_congr {ws xs : List (List Int)} (hp : (ringsOf ws).Perm (ringsOf xs)) : ringS ws = ringS xs := ringS_one ((ringS_perm ws).trans hp) (ringS_sorted ws)
theorem lw_len (u : List Int) : (lw u).length = u.length := turnS_len u _
theorem lw_nil : lw [] = [] := rfl
theorem rot_turn {r : Nat} (hr : r ≤ u.length) (hn : 0 < u.length) : om (turnS u r) = rot u r := by
  have h1 := om_per (turnS u r)
  rw [turnS_len] at h1
  funext d
  rw [← h1.mod d, ← (rot_per (s := u) r).mod d]
  have hd := Nat.mod_lt d hn
  have := turnS_at hr hd
  rw [om_lt (by rw [turnS_len]; exact hd)]
  rw [show ((r : Nat) : Int) = (r : Int) from rfl] at *
  exact this
theorem rot_rot {r q : Nat} (hr : r ≤ u.length) (hn : 0 < u.length) : rot (turnS u r) q = rot u (r + q) := by
  funext d
  show om (turnS u r) (q + d) = om u (r + q + d)
  rw [rot_turn hr hn]
  show om u (r + (q + d)) = _
  rw [Nat.add_assoc]
/-- The least rotation's own least rotation is itself. -/
theorem lrot_lw (u : List Int) : lrot (lw u) = 0 := by
  rcases Nat.eq_zero_or_pos u.length with z | z
  · rw [List.eq_nil_of_length_eq_zero z]; rfl
  · have hl := lw_len u
    have fl := lrot_FL z
    have hb : lrotK u u.length ≤ u.length := by have := fl.lt; omega
    have e : lw u = turnS u (lrotK u u.length : Nat) := rfl
    have f2 : FL (lw u) 0 := ⟨by omega, fun r hr => by
      rw [e, rot_rot hb z, rot_rot hb z]
      exact fl.any _, fun r hr => by omega⟩
    have f3 := lrot_FL (s := lw u) (by omega)
    have := f3.one f2
    unfold lrot
    omega
/-- Words are one if they are asx long and one without end. -/
theorem om_ext {a b : List Int} (hl : a.length = b.length) (h : om a = om b) : a = b := by
  refine list_ext_rd hl fun j h0 h1 => ?_
  have := congrFun h j.toNat
  rw [om_lt (by omega), om_lt (by omega)] at this
  exact this
theorem rot_lrot {r : Nat} (hr : r ≤ u.length) (hn : 0 < u.length) : lw (turnS u r) = lw u := by
  have hl := turnS_len u r
  have fl := lrot_FL hn
  have f2 := lrot_FL (s := turnS u r) (by omega)
  have hb : lrotK u u.length ≤ u.length := by have := fl.lt; omega
  have hb2 : lrotK (turnS u r) (turnS u r).length ≤ (turnS u r).length := by have := f2.lt; omega
  refine om_ext (by rw [lw_len, lw_len, hl]) ?_
  rw [show lw (turnS u r) = turnS (turnS u r) (lrotK (turnS u r) (turnS u r).length : Nat) from rfl, show lw u = turnS u (lrotK u u.length : Nat) from rfl, rot_turn hb hn, rot_turn hb2 (by omega), rot_rot hr hn]
  rcases lt_tri (rot u (r + lrotK (turnS u r) (turnS u r).length)) (rot u (lrotK u u.length)) with a | a | a
  · exact absurd a (fl.any _)
  · exact funext a
  · exfalso
    have h2 := f2.any (lrotK u u.length + (u.length - r))
    rw [rot_rot hr hn, rot_rot hr hn] at h2
    have e : rot u (r + (lrotK u u.length + (u.length - r))) = rot u (lrotK u u.length) := by
      rw [← rot_mod (r + _), ← rot_mod (lrotK u u.length), show r + (lrotK u u.length + (u.length - r)) = lrotK u u.length + u.length by omega, Nat.add_mod_right]
    rw [e] at h2
    exact h2 a
theorem ringOf_turn {r : Nat} (hr : r ≤ u.length) (hn : 0 < u.length) : ringOf (turnS u r) = ringOf u := by unfold ringOf; rw [rot_lrot hr hn]
theorem rl_dvd {c : List Int} (h : 0 < c.length) : (c.length : Int) % rl c = 0 := by
  obtain ⟨r, e, r1, r2, _, _⟩ := lp_spec h
  unfold rl
  split
  · exact Int.emod_self
  · omega
theorem root_len {c : List Int} (h : 0 < c.length) : ((rootW c).length : Int) = rl c := by
  have := rl_range h
  unfold rootW
  rw [List.length_take]
  omega
theorem times_mul {c : List Int} (h : 0 < c.length) : timesW c * rl c = c.length := Int.ediv_mul_cancel (Int.dvd_of_emod_eq_zero (rl_dvd h))
theorem times_pos {c : List Int} (h : 0 < c.length) : 0 < timesW c := by
  have h1 := times_mul h
  have h2 := rl_range h
  rcases Int.lt_or_le 0 (timesW c) with a | a
  · exact a
  · have := Int.mul_nonneg_of_nonpos_of_nonpos a (show -(rl c) ≤ 0 by omega)
    rw [Int.mul_neg] at this
    omega
theorem root_om {c : List Int} (h : 0 < c.length) : om (rootW c) = om c := by
  obtain ⟨r, e, r1, r2, ho, _⟩ := rl_spec h
  funext i
  rw [ho i]
  unfold rootW
  rw [e]
  rfl
theorem unring_root {c : List Int} (h : 0 < c.length) : rep (rootW c) (timesW c) = c := by
  have hr := root_len h
  have hp := rl_range h
  have ht := times_pos h
  have hl : (rep (rootW c) (timesW c)).length = c.length := by
    rw [rep_length]
    have h1 := times_mul h
    have : ((timesW c).toNat * (rootW c).length : Int) = c.length := by
      rw [Int.toNat_of_nonneg (by omega), hr, h1]
    exact_mod_cast this
  refine om_ext hl ?_
  rw [show timesW c = ((timesW c).toNat : Int) by omega]
  funext i
  rw [om_rep (by omega) (by omega), root_om h]
theorem mem_rings {ws : List (List Int)} {r : RT} (h : r ∈ ringsOf ws) : ∃ w ∈ ws, 0 < w.length ∧ r = ringOf w := by
  unfold ringsOf at h
  obtain ⟨w, hw, e⟩ := List.mem_map.1 h
  obtain ⟨h1, h2⟩ := List.mem_filter.1 hw
  exact ⟨w, h1, of_decide_eq_true h2, e.symm⟩
theorem mem_ringS {ws : List (List Int)} {r : RT} (h : r ∈ ringS ws) : ∃ w ∈ ws, 0 < w.length ∧ r = ringOf w := mem_rings ((ringS_perm ws).subset h)
theorem ringsOf_append (a b : List (List Int)) : ringsOf (a ++ b) = ringsOf a ++ ringsOf b := by unfold ringsOf; rw [List.filter_append, List.map_append]
end Go.Pure

/-! ## E27 -/
namespace Go.Eng
open Go Go.RowKit Go.Pure
section
variable {P : Program} {n : Nd} {B : Nat} {w0 : World} {L : Env} {R : List Row} {ty : TypeId}
theorem rd_isNone {w : World} {A : Option Addr} {m c : Nat} {k : IntKind} {u : List Int} (h : Rd w A m c 1 (ints k u)) (hA : A.isNone = true) : u = [] := by
  cases u with
  | nil => rfl
  | cons y l =>
    obtain ⟨b, g, _⟩ := h.at_ 0 (.int k y) (by simp [ints])
    rw [g] at hA
    cases hA
theorem getD_app {l m : List (List Int)} {j : Nat} (h : j < l.length) : (l ++ m).getD j [] = l.getD j [] := by
  rw [List.getD_eq_getElem?_getD, List.getD_eq_getElem?_getD, List.getElem?_append_left h]
theorem SlR.app {k : IntKind} {Rs : List Row} {v1 v2 : List Value} {l1 l2 : List (List Int)} (h : SlR k Rs v1 l1) (g : SlR k Rs v2 l2) : SlR k Rs (v1 ++ v2) (l1 ++ l2) := by
  refine ⟨by simp [h.1, g.1], fun j hj => ?_⟩
  rcases Nat.lt_or_ge j l1.length with q | q
  · obtain ⟨A, c, h1, h2⟩ := h.2 j q
    rw [getD_app q, List.getElem?_append_left (by rw [h.1]; exact q)]
    exact ⟨A, c, h1, h2⟩
  · rw [List.length_append] at hj
    obtain ⟨A, c, h1, h2⟩ := g.2 (j - l1.length) (by omega)
    have e : (l1 ++ l2).getD j [] = l2.getD (j - l1.length) [] := by
      rw [List.getD_eq_getElem?_getD, List.getD_eq_getElem?_getD, List.getElem?_append_right q]
    rw [e, List.getElem?_append_right (by rw [h.1]; exact q), h.1]
    exact ⟨A, c, h1, h2⟩
theorem SlR.single {k : IntKind} {Rs : List Row} {A : Option Addr} {m c : Nat} {l : List Int} (hm : m = l.length) (h : ∀ B w0 w, Hp B w0 w Rs → Rd w A m c 1 (ints k l)) : SlR k Rs [.slice A m c] [l] := by
  subst hm
  refine ⟨rfl, fun j hj => ?_⟩
  simp only [List.length_singleton] at hj
  obtain rfl : j = 0 := by omega
  exact ⟨A, c, rfl, h⟩
/-- A slice more, of whatever rows. -/
theorem SlR.push {k : IntKind} {Rs : List Row} {vals : List Value} {ls : List (List Int)} {A : Option Addr} {m c : Nat} {l : List Int} (h : SlR k Rs vals ls) (hm : m = l.length) (hr : ∀ B w0 w, Hp B w0 w Rs → Rd w A m c 1 (ints k l)) : SlR k Rs (vals ++ [.slice A m c]) (ls ++ [l]) := h.app (SlR.single hm hr)
/-- As slices of a world. -/
def OkB (ls : List (List Int)) : Prop := ∀ l ∈ ls, ByteL l ∧ l.length ≤ 140737488355327
theorem SlR.slw {Rs : List Row} {vals : List Value} {ls : List (List Int)} (h : SlR .u8 Rs vals ls) (hb : OkB ls) {w : World} (hw : Hp B w0 w Rs) : SlW .u8 w vals ls :=
  ⟨h.1, fun j hj => by
    obtain ⟨A, c, h1, h2⟩ := h.2 j hj
    have hm : ls.getD j [] ∈ ls := by
      rw [List.getD_eq_getElem?_getD, List.getElem?_eq_getElem hj]
      exact List.getElem_mem hj
    exact ⟨A, c, h1, h2 _ _ _ hw, fun x hx => wf_byte ((hb _ hm).1 x hx), (hb _ hm).2⟩⟩
theorem SlW.okB {w : World} {vals : List Value} {ls : List (List Int)} (h : SlW .u8 w vals ls) : OkB ls := fun l hl => by
  obtain ⟨j, hj, e⟩ := List.mem_iff_getElem.1 hl
  obtain ⟨A, c, _, _, h3, h4⟩ := h.2 j hj
  have e2 : ls.getD j [] = l := by rw [List.getD_eq_getElem?_getD, List.getElem?_eq_getElem hj, e]; rfl
  rw [e2] at h3 h4
  exact ⟨byteL_wf h3, h4⟩
structure RC where
  A : Option Addr
  c : Nat
  root : List Int
  times : Int
def encR (r : RC) : List Value := [.slice r.A r.root.length r.c, .int .i64 r.times]
def RC.rt (r : RC) : RT := (r.root, r.times)
def rdG (l : List RC) (i : Int) : RC := l.getD i.toNat ⟨none, 0, [], 0⟩
def rgs (l : List RC) : List Value := l.flatMap encR
def RgR (Rs : List Row) (l : List RC) : Prop := ∀ r ∈ l, ByteL r.root ∧ ∀ (B : Nat) (w0 w : World), Hp B w0 w Rs → Rd w r.A r.root.length r.c 1 (ints .u8 r.root)
theorem RgR.nil (Rs : List Row) : RgR Rs [] := fun r h => by cases h
theorem RgR.snoc {Rs : List Row} {l : List RC} {e m : Nat} {A : Option Addr} {c : Nat} {u : List Int} {t : Int} {ro : Bool} (h : RgR Rs l) (hm : m = u.length) (hb : ByteL u) : RgR (⟨e, 1, A, m, c, ints .u8 u, ro⟩ :: Rs) (l ++ [⟨A, c, u, t⟩]) := fun r hr => by
  subst hm
  rcases List.mem_append.1 hr with hr | hr
  · exact ⟨(h r hr).1, fun B w0 w hw => (h r hr).2 B w0 w hw.tail⟩
  · obtain rfl := List.mem_singleton.1 hr
    exact ⟨hb, fun B w0 w hw => rdr (R := ⟨e, 1, A, u.length, c, ints .u8 u, ro⟩ :: Rs) 0 rfl w hw⟩
theorem RgR.perm {Rs : List Row} {l m : List RC} (h : RgR Rs l) (hp : m.Perm l) : RgR Rs m := fun r hr => h r (hp.subset hr)
theorem rgs_len (l : List RC) : (rgs l).length = l.length * 2 := flat_len (enc := encR) (fun _ => rfl) l
theorem rgs_app (l m : List RC) : rgs (l ++ m) = rgs l ++ rgs m := List.flatMap_append
theorem rgs_one (l : List RC) : ∀ v ∈ rgs l, v.oneCell' = true := fun v hv => by
  obtain ⟨r, _, h⟩ := List.mem_flatMap.1 hv
  simp only [encR, List.mem_cons, List.not_mem_nil, or_false] at h
  rcases h with rfl | rfl <;> rfl
theorem encR_one (x : RC) : ∀ v ∈ encR x, v.oneCell' = true := fun v hv => by
  simp only [encR, List.mem_cons, List.not_mem_nil, or_false] at hv
  rcases hv with rfl | rfl <;> rfl
theorem rdG_mem {l : List RC} {i : Int} (h0 : 0 ≤ i) (h1 : i < l.length) : rdG l i ∈ l := by
  unfold rdG
  rw [List.getD_eq_getElem?_getD, List.getElem?_eq_getElem (by omega)]
  exact List.getElem_mem _
theorem rgs_at {l : List RC} {i : Int} (h0 : 0 ≤ i) (h1 : i < l.length) : ((rgs l).drop (i.toNat * 2)).take 2 = encR (rdG l i) := by
  have e : l = l.take i.toNat ++ rdG l i :: l.drop (i.toNat + 1) := by
    conv => lhs; rw [← List.take_append_drop i.toNat l]
    congr 1
    rw [List.drop_eq_getElem_cons (by omega)]
    congr 1
    unfold rdG
    rw [List.getD_eq_getElem?_getD, List.getElem?_eq_getElem (by omega)]
    rfl
  have hl : (rgs (l.take i.toNat)).length = i.toNat * 2 := by rw [rgs_len, List.length_take, Nat.min_eq_left (by omega)]
  have e2 : rgs l = rgs (l.take i.toNat) ++ (encR (rdG l i) ++ rgs (l.drop (i.toNat + 1))) := by
    conv => lhs; rw [e]
    rw [rgs_app]
    rfl
  rw [e2, List.drop_left' hl]
  rfl
theorem y_ldR {x : Operand} {t : TypeId} {d : TypeDesc} {A : Option Addr} {m c : Nat} {l : List RC} {i : Int} (hu : P.underlying t = some d) (hd : aggB d = true) (hst : (P.info? t).map (·.size) = some 2) (hx : ev L x = some (.pointer (pat A (i.toNat * 2)))) (hr : RdC B w0 R A m c 2 (rgs l)) (h0 : 0 ≤ i) (h1 : i < l.length) :
    Yl P n B w0 (.load t x) ty L R (.agg #[.slice (rdG l i).A (rdG l i).root.length (rdG l i).c, .int .i64 (rdG l i).times]) := by
  have := y_ldA (P := P) (n := n) (B := B) (w0 := w0) (R := R) (ty := ty) hu hd hst hx rfl hr (by rw [rgs_len]; omega) (by omega)
  rwa [rgs_at h0 h1] at this
theorem a_appendR {s x : Operand} {t e : TypeId} {z : Value} {bytes m p c c2 : Nat} {A A2 : Option Addr} {l news : List RC} (i : Nat) (hi : R[i]? = some ⟨e, 2, A, p, c, rgs l, false⟩) (ht : P.underlying t = some (.slice e)) (hinfo : (P.info? e).map (fun i => (i.zero, i.size, i.bytes)) = some (some z, 2, bytes)) (hz : z.cells.size = 2) (hb0 : Nat.blt 0 bytes = true)
    (hs : ev L s = some (.slice A p c)) (hx : ev L x = some (.slice A2 m c2)) (hrd : RdC B w0 R A2 m c2 2 (rgs news)) (hbytes : (p + m) * bytes ≤ 140737488355328) :
    Ac P n B w0 (.call { callee := .builtin .append, args := #[s, x], argTypes := #[t, t] }) ty L R (fun v R' => ∃ A' c', v = .slice A' (p + m) c' ∧ R' = R.set i ⟨e, 2, A', p + m, c', rgs (l ++ news), false⟩) := by
  have := a_append (P := P) (n := n) (B := B) (w0 := w0) (ty := ty) i hi rfl ht hinfo hz rfl hb0 hs hx hrd (rgs_one news) hbytes
  simp only [← rgs_app] at this
  exact this
theorem a_litR {t e : TypeId} {x : Operand} (r : RC) (ht : P.underlying t = some (.slice e)) (hinfo : (P.info? e).map (fun i => (i.zero, i.size)) = some (some (.agg #[.slice none 0 0, .int .i64 0]), 2)) (hx : ev L x = some (.agg #[.slice r.A r.root.length r.c, .int .i64 r.times])) :
    Ac P n B w0 (.buildSlice t 1 #[(0, x)]) ty L R (fun v R' => ∃ g, v = .slice (some ⟨g, 0, none⟩) 1 1 ∧ R' = ⟨e, 2, some ⟨g, 0, none⟩, 1, 1, rgs [r], false⟩ :: R) := by
  have hv : evp L [(0, x)] = some [(0, .agg #[.slice r.A r.root.length r.c, .int .i64 r.times])] := by simp [evp, hx]
  exact a_buildSlice (P := P) (n := n) (B := B) (w0 := w0) (L := L) (R := R) (ty := ty) (len := 1) (ps := [(0, x)]) (cells := #[.slice r.A r.root.length r.c, .int .i64 r.times]) ht hinfo hv (by decide) (by decide) (by kernel_rfl) (by rfl)
end
end Go.Eng

/-! ## F1 -/
namespace Go.Proofs.Ytdfcnalkdlifiaa
open Go Go.Eng Go.Pure
set_option linter.unusedVariables false
set_option maxRecDepth 100000 in
theorem isNaNI_ct {w : World} {x : Int} :
    Ct Try.prog 92 #[.int .i64 x] w.heap.size w [] (fun v R' => v = .bool false) := by
  refine fn1 Try.func92 rfl rfl rfl ?_
  refine w_seq ?_
  refine w_reg ?_
  refine wr_y rfl (y_assign rfl) ?_
  refine wr_nil ?_
  refine w_seq ?_
  refine w_reg ?_
  refine wr_y rfl (y_move rfl) ?_
  refine wr_y rfl (y_move rfl) ?_
  refine wr_y rfl (Yl.f (y_ne rfl rfl) (by omega)) ?_
  refine wr_y rfl (y_assign rfl) ?_
  refine wr_nil ?_
  refine w_ret ?_
  refine ⟨_, rfl, ?_⟩
  rfl

set_option maxRecDepth 100000 in
theorem compareI_ct {w : World} {x : Int} {y : Int} :
    Ct Try.prog 68 #[.int .i64 x, .int .i64 y] w.heap.size w [] (fun v R' => v = .int .i64 (cmpI x y)) := by
  refine fn1 Try.func68 rfl rfl rfl ?_
  refine w_seq ?_
  refine w_reg ?_
  refine wr_y rfl (y_assign rfl) ?_
  refine wr_nil ?_
  refine w_seq ?_
  refine w_reg ?_
  refine wr_y rfl (y_move rfl) ?_
  refine wr_a rfl (a_callF en92 rfl (Ct.quiet (fun w hw => isNaNI_ct))) ?_
  rintro _ _ ⟨rfl, rfl⟩
  refine wr_y rfl (y_assign rfl) ?_
  refine wr_nil ?_
  refine w_seq ?_
  refine w_reg ?_
  refine wr_y rfl (y_move rfl) ?_
  refine wr_a rfl (a_callF en92 rfl (Ct.quiet (fun w hw => isNaNI_ct))) ?_
  rintro _ _ ⟨rfl, rfl⟩
  refine wr_y rfl (y_assign rfl) ?_
  refine wr_nil ?_
  refine w_seq ?_
  refine w_seq ?_
  refine w_reg ?_
  refine wr_y rfl (y_move rfl) ?_
  refine wr_nil ?_
  refine w_false rfl ?_
  refine w_skip ?_
  refine w_seq ?_
  refine w_seq ?_
  refine w_reg ?_
  refine wr_y rfl (y_move rfl) ?_
  refine wr_nil ?_
  refine w_false rfl ?_
  refine w_skip ?_
  refine w_seq ?_
  refine w_seq ?_
  refine w_reg ?_
  refine wr_y rfl (y_move rfl) ?_
  refine wr_y rfl (y_move rfl) ?_
  refine wr_y rfl (y_lt rfl rfl) ?_
  refine wr_nil ?_
  refine w_if rfl (fun hc1 => ?_) (fun hc1 => ?_)
  ·
    refine w_seq ?_
    refine w_reg ?_
    refine wr_y rfl (y_assign rfl) ?_
    refine wr_nil ?_
    refine w_ret ?_
    refine ⟨_, rfl, ?_⟩
    exact congrArg (Value.int .i64) (by unfold cmpI; rw [if_pos (by omega)])
  ·
    refine w_skip ?_
    refine w_seq ?_
    refine w_seq ?_
    refine w_reg ?_
    refine wr_y rfl (y_move rfl) ?_
    refine wr_y rfl (y_move rfl) ?_
    refine wr_y rfl (y_gt rfl rfl) ?_
    refine wr_nil ?_
    refine w_if rfl (fun hc2 => ?_) (fun hc2 => ?_)
    ·
      refine w_seq ?_
      refine w_reg ?_
      refine wr_y rfl (y_assign rfl) ?_
      refine wr_nil ?_
      refine w_ret ?_
      refine ⟨_, rfl, ?_⟩
      exact congrArg (Value.int .i64) (by unfold cmpI; rw [if_neg (by omega), if_pos (by omega)])
    ·
      refine w_skip ?_
      refine w_seq ?_
      refine w_reg ?_
      refine wr_y rfl (y_assign rfl) ?_
      refine wr_nil ?_
      refine w_ret ?_
      refine ⟨_, rfl, ?_⟩
      exact congrArg (Value.int .i64) (by unfold cmpI; rw [if_neg (by omega), if_neg (by omega)])

end Go.Proofs.Ytdfcnalkdlifiaa

/-! ## N2 -/
namespace Go.Proofs.Ytdfcnalkdlifiaa
open Go Go.Eng Go.Pure
set_option linter.unusedVariables false
set_option maxRecDepth 100000 in
theorem ofL_ct {w : World} {A_u : Option Addr} {n_u c_u : Nat} {u : List Int} (h_u : Rd w A_u n_u c_u 1 (ints .u8 u)) (bh_u : ByteL u) (hN : u.length ≤ 1000000) :
    Ct Try.prog 63 #[.slice A_u n_u c_u] w.heap.size w [] (fun v R' => ∃ A c, v = .slice A (lw u).length c ∧ R' = [⟨5, 1, A, (lw u).length, c, ints .u8 (lw u), false⟩]) := by
  obtain rfl := h_u.lenI
  refine fn1 Try.func63 rfl rfl rfl ?_
  have m_u := h_u.max
  have hlr := lrot_bd u
  have hfe : ([u.drop (lrot u).toNat, u.take (lrot u).toNat] : List (List Int)).flatten = lw u := by simp [lw, turnS]
  have hlw := lw_len u
  refine w_seq ?_
  refine w_reg ?_
  refine wr_y rfl (y_assign rfl) ?_
  refine wr_nil ?_
  refine w_seq ?_
  refine w_reg ?_
  refine wr_y rfl (y_move rfl) ?_
  refine wr_a rfl (a_callF en87 rfl (Ct.quiet (fun w hw => at6_ct ((h_u.c _) w hw) (by first | assumption | omega | decide)))) ?_
  rintro _ _ ⟨rfl, rfl⟩
  refine wr_y rfl (y_assign rfl) ?_
  refine wr_nil ?_
  refine w_seq ?_
  refine w_regd mixed ?_
  refine wd_y 0 rfl (by kernel_rfl) rfl (y_move rfl) ?_
  refine wd_y 1 rfl (by kernel_rfl) rfl (y_move rfl) ?_
  refine wd_y 2 rfl (by kernel_rfl) rfl (y_sliceFrom Try.underlying22 sz5 rfl rfl (by omega) (by omega)) ?_
  refine wd_y 3 rfl (by kernel_rfl) rfl (y_move rfl) ?_
  refine wd_y 4 rfl (by kernel_rfl) rfl (y_move rfl) ?_
  refine wd_y 5 rfl (by kernel_rfl) rfl (y_sliceTo Try.underlying22 sz5 rfl rfl (h_u.c _) (by omega) (by omega)) ?_
  have hsw : SlW .u8 w [.slice (cutA A_u (lrot u).toNat c_u 1) (u.length - (lrot u).toNat) (c_u - (lrot u).toNat), .slice A_u ((lrot u).toNat) c_u] [u.drop (lrot u).toNat, u.take (lrot u).toNat] := ((slw_none _ _).snoc (h_u.fromI (l := (lrot u).toNat) (by omega)) (fun x hx => wf_byte (bh_u x (List.mem_of_mem_drop hx))) (by rw [List.length_drop]; omega)).snoc (h_u.toI (by omega)) (fun x hx => wf_byte (bh_u x (List.mem_of_mem_take hx))) (by rw [List.length_take]; omega)
  refine wd_a 6 rfl (by kernel_rfl) rfl (a_lit [.slice (cutA A_u (lrot u).toNat c_u 1) (u.length - (lrot u).toNat) (c_u - (lrot u).toNat), .slice A_u ((lrot u).toNat) c_u] Try.underlying30 zs22 rfl rfl rfl rfl) ?_
  rintro _ _ ⟨g_2, rfl, rfl⟩
  refine ⟨.inr fun _ h => h.right (R' := [_]), ?_⟩
  refine wd_a 7 rfl (by kernel_rfl) rfl (a_callF en88 rfl (Ct.fresh (fun w hw => concatB_ct ((rdr 0 rfl) w hw) (hsw.c hw) (by rw [hfe]; exact ⟨by omega, by simp⟩)))) ?_
  rintro _ _ ⟨_, rfl, A_3, c_4, rfl, rfl⟩
  refine ⟨.inr fun _ h => h.right (R' := [_]), ?_⟩
  refine wd_y 8 rfl (by kernel_rfl) rfl (y_assign rfl) ?_
  refine wd_nil (by kernel_rfl) ?_
  refine w_retR (R1 := [⟨5, 1, A_3, ((([u.drop (lrot u).toNat, u.take (lrot u).toNat])).flatten).length, c_4, ints .u8 ((([u.drop (lrot u).toNat, u.take (lrot u).toNat])).flatten), false⟩]) (fun _ h => h.sel [0] (by decide) rfl) ?_
  refine ⟨_, rfl, ?_⟩
  rw [hfe]
  exact ⟨_, _, rfl, rfl⟩

set_option maxRecDepth 100000 in
theorem cloneB_ct {w : World} {A_u : Option Addr} {n_u c_u : Nat} {u : List Int} (h_u : Rd w A_u n_u c_u 1 (ints .u8 u)) (hN : u.length ≤ 1000000) :
    Ct Try.prog 86 #[.slice A_u n_u c_u] w.heap.size w [] (fun v R' => ∃ A c, v = .slice A (u).length c ∧ R' = [⟨5, 1, A, (u).length, c, ints .u8 (u), false⟩]) := by
  obtain rfl := h_u.lenI
  refine fn1 Try.func86 rfl rfl rfl ?_
  have m_u := h_u.max
  refine w_seq ?_
  refine w_reg ?_
  refine wr_sub (R1 := [⟨5, 1, none, 0, 0, ints .u8 ([]), false⟩]) (Sub.refl _) (fun _ h => h.nil 5 1) ?_
  refine wr_y rfl (y_assign rfl) ?_
  refine wr_nil ?_
  refine w_seq ?_
  refine w_seq ?_
  refine w_reg ?_
  refine wr_y rfl (y_move rfl) ?_
  refine wr_y rfl (y_slNil Try.underlying22 rfl rfl) ?_
  refine wr_nil ?_
  refine w_cond rfl (fun hc1 => ?_) (fun hc1 => ?_)
  ·
    refine w_seq ?_
    refine w_reg ?_
    refine wr_y rfl (y_assign rfl) ?_
    refine wr_nil ?_
    refine w_retR (R1 := [⟨5, 1, none, 0, 0, ints .u8 ([]), false⟩]) (fun _ h => h.sel [0] (by decide) rfl) ?_
    refine ⟨_, rfl, ?_⟩
    obtain rfl := rd_isNone h_u hc1
    exact ⟨_, _, rfl, rfl⟩
  ·
    refine w_skip ?_
    refine w_seq ?_
    refine w_reg ?_
    refine wr_a rfl (a_litI .u8 [] Try.underlying22 zs5 rfl rfl rfl) ?_
    rintro _ _ ⟨g_2, rfl, rfl⟩
    refine wr_y rfl (y_move rfl) ?_
    refine wr_a rfl (a_appendI 0 rfl Try.underlying22 zb5 rfl rfl rfl (h_u.c _) (by omega)) ?_
    rintro _ _ ⟨A_3, c_4, rfl, rfl⟩
    refine wr_rows (R1 := [⟨5, 1, A_3, (0 + u.length), c_4, ints .u8 (([]) ++ u), false⟩, ⟨5, 1, none, 0, 0, ints .u8 ([]), false⟩]) rfl ?_
    refine wr_as (v := .slice A_3 (0 + u.length) c_4) rfl ?_
    refine wr_y rfl (y_assign rfl) ?_
    refine wr_nil ?_
    refine w_retR (R1 := [⟨5, 1, A_3, (0 + u.length), c_4, ints .u8 (([]) ++ u), false⟩]) (fun _ h => h.sel [0] (by decide) rfl) ?_
    refine ⟨_, rfl, ?_⟩
    simp only [List.nil_append, Nat.zero_add]
    exact ⟨_, _, rfl, rfl⟩

set_option maxRecDepth 100000 in
theorem compareBB_ct {w : World} {A_u : Option Addr} {n_u c_u : Nat} {u : List Int} {A_t : Option Addr} {n_t c_t : Nat} {t : List Int} (h_u : Rd w A_u n_u c_u 1 (ints .u8 u)) (h_t : Rd w A_t n_t c_t 1 (ints .u8 t)) (bh_u : ByteL u) (bh_t : ByteL t) :
    Ct Try.prog 67 #[.slice A_u n_u c_u, .slice A_t n_t c_t] w.heap.size w [] (fun v R' => v = .int .i64 (cmpL u t)) := by
  obtain rfl := h_u.lenI
  obtain rfl := h_t.lenI
  refine fn1 Try.func67 rfl rfl rfl ?_
  have m_u := h_u.max
  have m_t := h_t.max
  refine w_seq ?_
  refine w_reg ?_
  refine wr_y rfl (y_assign rfl) ?_
  refine wr_nil ?_
  refine w_seq ?_
  refine w_reg ?_
  refine wr_y rfl (y_move rfl) ?_
  refine wr_y rfl (y_move rfl) ?_
  refine wr_a rfl (a_cmp Try.func91 (by kernel_rfl) (by kernel_rfl) (by kernel_rfl) (by kernel_rfl) rfl rfl (h_u.c _) (h_t.c _) bh_u bh_t) ?_
  rintro _ _ ⟨rfl, rfl⟩
  refine wr_y rfl (y_assign rfl) ?_
  refine wr_nil ?_
  refine w_ret ?_
  refine ⟨_, rfl, ?_⟩
  rfl

theorem bord_step {u L : List Int} {i z : Int} (i1 : 1 ≤ i) (hi : i < u.length) (hl : L.length = u.length) (hM : ∀ j : Int, 0 ≤ j → j < i → j < u.length → MB u (j + 1).toNat (rd L j)) (h : MB u (i.toNat + 1) z) : ∀ j : Int, 0 ≤ j → j < i + 1 → j < u.length → MB u (j + 1).toNat (rd (upd L i z) j) := fun j h0 h1 h2 => by
  by_cases e : j = i
  · subst e
    rw [rd_upd_same (by omega) (by omega), show (j + 1).toNat = j.toNat + 1 by omega]
    exact h
  · rw [rd_upd_other (by omega) h0 (fun q => e q.symm)]
    exact hM j h0 (by omega) h2
set_option maxRecDepth 100000 in
set_option maxHeartbeats 800000 in
theorem borders_ct {w : World} {A_u : Option Addr} {n_u c_u : Nat} {u : List Int} (h_u : Rd w A_u n_u c_u 1 (ints .u8 u)) (hN : u.length ≤ 1000000) :
    Ct Try.prog 100 #[.slice A_u n_u c_u] w.heap.size w [] (fun v R' => ∃ (A : Option Addr) (c : Nat) (L : List Int), v = .slice A L.length c ∧ L.length = u.length ∧ (∀ j : Int, 0 ≤ j → j < u.length → j < u.length → MB u (j + 1).toNat (rd L j)) ∧ R' = [⟨3, 1, A, L.length, c, ints .i64 L, false⟩]) := by
  obtain rfl := h_u.lenI
  refine fn1 Try.func100 rfl rfl rfl ?_
  have m_u := h_u.max
  refine w_seq ?_
  refine w_reg ?_
  refine wr_y rfl (y_assign rfl) ?_
  refine wr_nil ?_
  refine w_seq ?_
  refine w_reg ?_
  refine wr_y rfl (y_move rfl) ?_
  refine wr_y rfl (y_len Try.underlying22 rfl) ?_
  refine wr_a rfl (a_makeN Try.underlying35 zb3 rfl rfl (by omega) (by omega) (by omega)) ?_
  rintro _ _ ⟨g_1, rfl, rfl⟩
  refine wr_rows (R1 := [⟨3, 1, (some ⟨g_1, 0, none⟩), u.length, u.length, ints .i64 (List.replicate u.length (0 : Int)), false⟩]) rfl ?_
  refine wr_as (v := .slice (some ⟨g_1, 0, none⟩) u.length u.length) rfl ?_
  refine wr_y rfl (y_assign rfl) ?_
  refine wr_nil ?_
  refine w_seq ?_
  refine w_reg ?_
  refine wr_y rfl (y_assign rfl) ?_
  refine wr_nil ?_
  refine w_seq ?_
  refine w_seq ?_
  refine w_reg ?_
  refine wr_y rfl (y_assign rfl) ?_
  refine wr_nil ?_
  refine w_block ?_
  refine w_loop3 (fun (i : Int) (z : Int) (L : List Int) => [(0, .slice A_u u.length c_u), (3, .slice (some ⟨g_1, 0, none⟩) u.length u.length), (4, .int .i64 z), (5, .int .i64 i)]) (fun (i : Int) (z : Int) (L : List Int) => [⟨3, 1, (some ⟨g_1, 0, none⟩), u.length, u.length, ints .i64 L, false⟩]) (fun (i : Int) (z : Int) (L : List Int) => (1 ≤ i) ∧ (i ≤ u.length ∨ i = 1) ∧ (L.length = u.length) ∧ (∀ j : Int, 0 ≤ j → j < i → j < u.length → MB u (j + 1).toNat (rd L j)) ∧ (MB u i.toNat z)) (fun (i : Int) (z : Int) (L : List Int) => (u.length - i).toNat) ?_ ?_
  ·
    exact ⟨1, 0, List.replicate u.length (0 : Int), ⟨(by omega), (by omega), (by rw [List.length_replicate]), (fun j h0 h1 h2 => by obtain rfl : j = 0 := (by omega); have e : rd (List.replicate u.length (0 : Int)) 0 = 0 := (by unfold rd; rw [List.getD_eq_getElem?_getD, List.getElem?_replicate]; split <;> rfl); rw [e]; exact MB.one), (MB.one)⟩, (Sub.cons rfl (Sub.cons rfl (Sub.cons rfl (Sub.cons rfl Sub.nil)))), fun _ h => h⟩
  intro i z L ⟨hi1, hi2, hLl, hM, hn⟩
  refine w_seq ?_
  refine w_seq ?_
  refine w_reg ?_
  refine wr_y rfl (y_move rfl) ?_
  refine wr_y rfl (y_move rfl) ?_
  refine wr_y rfl (y_len Try.underlying22 rfl) ?_
  refine wr_y rfl (y_lt rfl rfl) ?_
  refine wr_nil ?_
  refine w_if rfl (fun hc1 => ?_) (fun hc1 => ?_)
  ·
    refine w_skip ?_
    refine w_seq ?_
    refine w_block ?_
    refine w_seq ?_
    refine w_block ?_
    refine w_loop1 (fun (m : Int) => [(0, .slice A_u u.length c_u), (3, .slice (some ⟨g_1, 0, none⟩) u.length u.length), (4, .int .i64 m), (5, .int .i64 i)]) (fun (m : Int) => [⟨3, 1, (some ⟨g_1, 0, none⟩), u.length, u.length, ints .i64 L, false⟩]) (fun (m : Int) => (KI u i.toNat m)) (fun (m : Int) => m.toNat) ?_ ?_
    ·
      exact ⟨z, (KI.init hn), (Sub.cons rfl (Sub.cons rfl (Sub.cons rfl (Sub.cons rfl Sub.nil)))), fun _ h => h⟩
    intro m hK
    have hKb := hK.bd
    refine w_seq ?_
    refine w_join0 [(0, .slice A_u u.length c_u), (3, .slice (some ⟨g_1, 0, none⟩) u.length u.length), (4, .int .i64 m), (5, .int .i64 i), (27, .bool (decide ((0 < m) ∧ ((rd u i) ≠ (rd u m)))))] [⟨3, 1, (some ⟨g_1, 0, none⟩), u.length, u.length, ints .i64 L, false⟩] ?_ ?_
    ·
      refine w_regd mixed ?_
      refine wd_y 0 rfl (by kernel_rfl) rfl (y_move rfl) ?_
      refine wd_y 1 rfl (by kernel_rfl) rfl (y_gt rfl rfl) ?_
      refine wd_y 2 rfl (by kernel_rfl) rfl (y_move rfl) ?_
      refine wd_case 17 rfl (fun hc2 => ?_) (fun hc2 => ?_)
      ·
        refine wd_yg 3 rfl (by kernel_rfl) rfl rfl rfl (y_move rfl) ?_
        refine wd_yg 4 rfl (by kernel_rfl) rfl rfl rfl (y_move rfl) ?_
        refine wd_yg 5 rfl (by kernel_rfl) rfl rfl rfl (y_index1 Try.underlying22 sz5 rfl rfl (h_u.c _) (by omega) (by omega)) ?_
        refine wd_yg 6 rfl (by kernel_rfl) rfl rfl rfl (y_ldI Try.underlying5 rfl rfl (h_u.c _) (by omega) (by omega)) ?_
        refine wd_yg 7 rfl (by kernel_rfl) rfl rfl rfl (y_move rfl) ?_
        refine wd_yg 8 rfl (by kernel_rfl) rfl rfl rfl (y_move rfl) ?_
        refine wd_yg 9 rfl (by kernel_rfl) rfl rfl rfl (y_index1 Try.underlying22 sz5 rfl rfl (h_u.c _) (by omega) (by omega)) ?_
        refine wd_yg 10 rfl (by kernel_rfl) rfl rfl rfl (y_ldI Try.underlying5 rfl rfl (h_u.c _) (by omega) (by omega)) ?_
        refine wd_yg 11 rfl (by kernel_rfl) rfl rfl rfl (y_ne rfl rfl) ?_
        refine wd_y 12 rfl (by kernel_rfl) rfl (y_pickT rfl rfl) ?_
        refine wd_nil (by kernel_rfl) ?_
        exact ⟨(Sub.cons rfl (Sub.cons rfl (Sub.cons rfl (Sub.cons rfl (Sub.to rfl (mb (by first | omega | exact ⟨fun h => ⟨(by assumption), h⟩, fun h => h.2⟩ | simp [*])) Sub.nil))))), fun _ h => h⟩
      ·
        refine wd_no 3 rfl (by kernel_rfl) rfl rfl rfl rfl ?_
        refine wd_no 4 rfl (by kernel_rfl) rfl rfl rfl rfl ?_
        refine wd_no 5 rfl (by kernel_rfl) rfl rfl rfl rfl ?_
        refine wd_no 6 rfl (by kernel_rfl) rfl rfl rfl rfl ?_
        refine wd_no 7 rfl (by kernel_rfl) rfl rfl rfl rfl ?_
        refine wd_no 8 rfl (by kernel_rfl) rfl rfl rfl rfl ?_
        refine wd_no 9 rfl (by kernel_rfl) rfl rfl rfl rfl ?_
        refine wd_no 10 rfl (by kernel_rfl) rfl rfl rfl rfl ?_
        refine wd_no 11 rfl (by kernel_rfl) rfl rfl rfl rfl ?_
        refine wd_y 12 rfl (by kernel_rfl) rfl (y_pickF rfl rfl) ?_
        refine wd_nil (by kernel_rfl) ?_
        exact ⟨(Sub.cons rfl (Sub.cons rfl (Sub.cons rfl (Sub.cons rfl (Sub.to rfl (mb_f (by first | omega | exact ⟨fun h => ⟨(by assumption), h⟩, fun h => h.2⟩ | simp [*])) Sub.nil))))), fun _ h => h⟩
    refine w_if rfl (fun hc3 => ?_) (fun hc3 => ?_)
    ·
      have hst : rd u m ≠ rd u i := fun e => hc3.2 e.symm
      have hMm := hM (m - 1) (by omega) (by omega) (by omega)
      rw [show (m - 1 + 1).toNat = m.toNat by omega] at hMm
      refine w_skip ?_
      refine w_block ?_
      refine w_reg ?_
      refine wr_y rfl (y_move rfl) ?_
      refine wr_y rfl (y_move rfl) ?_
      refine wr_y rfl (y_subI rfl rfl (by omega)) ?_
      refine wr_y rfl (y_index1 Try.underlying35 sz3 rfl rfl (rdr 0 rfl) (by omega) (by omega)) ?_
      refine wr_y rfl (y_ldI Try.underlying3 rfl rfl (rdr 0 rfl) (by omega) (by omega)) ?_
      refine wr_y rfl (y_assign rfl) ?_
      refine wr_nil ?_
      exact ⟨rd L (m - 1), (hK.step (by rw [← lt_rd, ← lt_rd]; exact hst) hMm), (by have := hMm.bd; omega), (Sub.cons rfl (Sub.cons rfl (Sub.cons rfl (Sub.cons rfl Sub.nil)))), fun _ h => h⟩
    ·
      refine w_exit ?_
      refine w_seq ?_
      refine w_seq ?_
      refine w_regd mixed ?_
      refine wd_y 0 rfl (by kernel_rfl) rfl (y_move rfl) ?_
      refine wd_y 1 rfl (by kernel_rfl) rfl (y_move rfl) ?_
      refine wd_y 2 rfl (by kernel_rfl) rfl (y_index1 Try.underlying22 sz5 rfl rfl (h_u.c _) (by omega) (by omega)) ?_
      refine wd_y 3 rfl (by kernel_rfl) rfl (y_ldI Try.underlying5 rfl rfl (h_u.c _) (by omega) (by omega)) ?_
      refine wd_y 4 rfl (by kernel_rfl) rfl (y_move rfl) ?_
      refine wd_y 5 rfl (by kernel_rfl) rfl (y_move rfl) ?_
      refine wd_y 6 rfl (by kernel_rfl) rfl (y_index1 Try.underlying22 sz5 rfl rfl (h_u.c _) (by omega) (by omega)) ?_
      refine wd_y 7 rfl (by kernel_rfl) rfl (y_ldI Try.underlying5 rfl rfl (h_u.c _) (by omega) (by omega)) ?_
      refine wd_y 8 rfl (by kernel_rfl) rfl (y_eq rfl rfl) ?_
      refine wd_nil (by kernel_rfl) ?_
      refine w_if rfl (fun hc4 => ?_) (fun hc4 => ?_)
      ·
        have hmb := hK.hit (by rw [← lt_rd, ← lt_rd]; exact hc4.symm)
        refine w_reg ?_
        refine wr_y rfl (y_move rfl) ?_
        refine wr_y rfl (y_addI rfl rfl (by omega)) ?_
        refine wr_y rfl (y_assign rfl) ?_
        refine wr_nil ?_
        refine w_reg ?_
        refine wr_y rfl (y_move rfl) ?_
        refine wr_y rfl (y_move rfl) ?_
        refine wr_y rfl (y_move rfl) ?_
        refine wr_y rfl (y_index1 Try.underlying35 sz3 rfl rfl (rdr 0 rfl) (by omega) (by omega)) ?_
        refine wr_n (a_storeI 0 rfl sz3 rfl rfl (by omega) (by omega)) ?_
        rintro _ _ rfl
        refine wr_rows (R1 := [⟨3, 1, (some ⟨g_1, 0, none⟩), u.length, u.length, ints .i64 (upd L i (m + 1)), false⟩]) rfl ?_
        refine wr_nil ?_
        refine w_reg ?_
        refine wr_y rfl (y_move rfl) ?_
        refine wr_y rfl (y_addI rfl rfl (by omega)) ?_
        refine wr_y rfl (y_assign rfl) ?_
        refine wr_nil ?_
        exact ⟨i + 1, m + 1, upd L i (m + 1), ⟨(by omega), (by omega), (by rw [upd_length]; exact hLl), (bord_step hi1 (by omega) hLl hM hmb), (by rw [show (i + 1).toNat = i.toNat + 1 by omega]; exact hmb)⟩, (by omega), (Sub.cons rfl (Sub.cons rfl (Sub.cons rfl (Sub.cons rfl Sub.nil)))), fun _ h => h⟩
      ·
        have hmb := hK.miss (by omega) (by rw [← lt_rd, ← lt_rd]; exact fun e => hc4 e.symm)
        refine w_skip ?_
        refine w_reg ?_
        refine wr_y rfl (y_move rfl) ?_
        refine wr_y rfl (y_move rfl) ?_
        refine wr_y rfl (y_move rfl) ?_
        refine wr_y rfl (y_index1 Try.underlying35 sz3 rfl rfl (rdr 0 rfl) (by omega) (by omega)) ?_
        refine wr_n (a_storeI 0 rfl sz3 rfl rfl (by omega) (by omega)) ?_
        rintro _ _ rfl
        refine wr_rows (R1 := [⟨3, 1, (some ⟨g_1, 0, none⟩), u.length, u.length, ints .i64 (upd L i m), false⟩]) rfl ?_
        refine wr_nil ?_
        refine w_reg ?_
        refine wr_y rfl (y_move rfl) ?_
        refine wr_y rfl (y_addI rfl rfl (by omega)) ?_
        refine wr_y rfl (y_assign rfl) ?_
        refine wr_nil ?_
        exact ⟨i + 1, m, upd L i m, ⟨(by omega), (by omega), (by rw [upd_length]; exact hLl), (bord_step hi1 (by omega) hLl hM hmb), (by rw [show (i + 1).toNat = i.toNat + 1 by omega]; exact hmb)⟩, (by omega), (Sub.cons rfl (Sub.cons rfl (Sub.cons rfl (Sub.cons rfl Sub.nil)))), fun _ h => h⟩
  ·
    refine w_exit ?_
    refine w_seq ?_
    refine w_reg ?_
    refine wr_y rfl (y_move rfl) ?_
    refine wr_y rfl (y_assign rfl) ?_
    refine wr_nil ?_
    refine w_retR (R1 := [⟨3, 1, (some ⟨g_1, 0, none⟩), u.length, u.length, ints .i64 L, false⟩]) (fun _ h => h.sel [0] (by decide) rfl) ?_
    refine ⟨_, rfl, ?_⟩
    exact ⟨_, _, L, by rw [hLl], hLl, fun j h0 h1 _ => hM j h0 (by omega) h1, by rw [hLl]⟩

set_option maxRecDepth 100000 in
theorem leastP_ct {w : World} {A_u : Option Addr} {n_u c_u : Nat} {u : List Int} (h_u : Rd w A_u n_u c_u 1 (ints .u8 u)) (hN : u.length ≤ 1000000) :
    Ct Try.prog 85 #[.slice A_u n_u c_u] w.heap.size w [] (fun v R' => v = .int .i64 (lp u)) := by
  obtain rfl := h_u.lenI
  refine fn1 Try.func85 rfl rfl rfl ?_
  have m_u := h_u.max
  refine w_seq ?_
  refine w_reg ?_
  refine wr_y rfl (y_assign rfl) ?_
  refine wr_nil ?_
  refine w_seq ?_
  refine w_seq ?_
  refine w_reg ?_
  refine wr_y rfl (y_move rfl) ?_
  refine wr_y rfl (y_len Try.underlying22 rfl) ?_
  refine wr_y rfl (y_eq rfl rfl) ?_
  refine wr_nil ?_
  refine w_if rfl (fun hc1 => ?_) (fun hc1 => ?_)
  ·
    refine w_seq ?_
    refine w_reg ?_
    refine wr_y rfl (y_assign rfl) ?_
    refine wr_nil ?_
    refine w_ret ?_
    refine ⟨_, rfl, ?_⟩
    exact congrArg (Value.int .i64) (by rw [List.eq_nil_of_length_eq_zero (show u.length = 0 by omega)]; rfl)
  ·
    refine w_skip ?_
    refine w_seq ?_
    refine w_reg ?_
    refine wr_y rfl (y_move rfl) ?_
    refine wr_y rfl (y_len Try.underlying22 rfl) ?_
    refine wr_y rfl (y_move rfl) ?_
    refine wr_a rfl (a_callF en100 rfl (Ct.fresh (fun w hw => borders_ct ((h_u.c _) w hw) (by first | assumption | omega | decide)))) ?_
    rintro _ _ ⟨_, rfl, A_1, c_2, L_3, rfl, hLl, hLM, rfl⟩
    refine wr_y rfl (y_move rfl) ?_
    refine wr_y rfl (y_len Try.underlying22 rfl) ?_
    refine wr_y rfl (y_subI rfl rfl (by omega)) ?_
    refine wr_y rfl (y_index1 Try.underlying35 sz3 rfl rfl (rdr 0 rfl) (by omega) (by omega)) ?_
    refine wr_y rfl (y_ldI Try.underlying3 rfl rfl (rdr 0 rfl) (by omega) (by omega)) ?_
    refine wr_y rfl (y_subI rfl rfl (by have hq := (hLM (u.length - 1) (by omega) (by omega) (by omega)).bd; omega)) ?_
    refine wr_y rfl (y_assign rfl) ?_
    refine wr_nil ?_
    refine w_retR (R1 := []) (fun _ h => h.sel [] (by decide) rfl) ?_
    refine ⟨_, rfl, ?_⟩
    exact congrArg (Value.int .i64) (MB.least (by omega) (by have := hLM (u.length - 1) (by omega) (by omega) (by omega); rw [show ((u.length : Int) - 1 + 1).toNat = u.length by omega] at this; exact this))

set_option maxRecDepth 100000 in
theorem rootP_ct {w : World} {A_u : Option Addr} {n_u c_u : Nat} {u : List Int} (h_u : Rd w A_u n_u c_u 1 (ints .u8 u)) (hN : u.length ≤ 1000000) :
    Ct Try.prog 62 #[.slice A_u n_u c_u] w.heap.size w [] (fun v R' => ∃ (A : Option Addr) (c : Nat), v = .tuple #[.slice A (rootW u).length c, .int .i64 (timesW u)] ∧ R' = [⟨5, 1, A, (rootW u).length, c, ints .u8 (rootW u), false⟩]) := by
  obtain rfl := h_u.lenI
  refine fn2 Try.func62 rfl rfl rfl ?_
  have m_u := h_u.max
  refine w_seq ?_
  refine w_reg ?_
  refine wr_sub (R1 := [⟨5, 1, none, 0, 0, ints .u8 ([]), false⟩]) (Sub.refl _) (fun _ h => h.nil 5 1) ?_
  refine wr_y rfl (y_assign rfl) ?_
  refine wr_y rfl (y_assign rfl) ?_
  refine wr_nil ?_
  refine w_seq ?_
  refine w_seq ?_
  refine w_reg ?_
  refine wr_y rfl (y_move rfl) ?_
  refine wr_y rfl (y_len Try.underlying22 rfl) ?_
  refine wr_y rfl (y_eq rfl rfl) ?_
  refine wr_nil ?_
  refine w_if rfl (fun hc1 => ?_) (fun hc1 => ?_)
  ·
    refine w_seq ?_
    refine w_reg ?_
    refine wr_y rfl (y_assign rfl) ?_
    refine wr_y rfl (y_assign rfl) ?_
    refine wr_nil ?_
    refine w_retR (R1 := [⟨5, 1, none, 0, 0, ints .u8 ([]), false⟩]) (fun _ h => h.sel [0] (by decide) rfl) ?_
    refine ⟨_, _, rfl, rfl, ?_⟩
    obtain rfl := List.eq_nil_of_length_eq_zero (show u.length = 0 by omega)
    exact ⟨_, _, rfl, rfl⟩
  ·
    have hlp := lp_range (u := u) (by omega)
    refine w_skip ?_
    refine w_seq ?_
    refine w_reg ?_
    refine wr_y rfl (y_move rfl) ?_
    refine wr_a rfl (a_callF en85 rfl (Ct.quiet (fun w hw => leastP_ct ((h_u.c _) w hw) (by first | assumption | omega | decide)))) ?_
    rintro _ _ ⟨rfl, rfl⟩
    refine wr_y rfl (y_assign rfl) ?_
    refine wr_nil ?_
    refine w_seq ?_
    refine w_seq ?_
    refine w_reg ?_
    refine wr_y rfl (y_move rfl) ?_
    refine wr_y rfl (y_len Try.underlying22 rfl) ?_
    refine wr_y rfl (y_move rfl) ?_
    refine wr_y rfl (y_rem rfl rfl (by omega) (by omega)) ?_
    refine wr_y rfl (y_ne rfl rfl) ?_
    refine wr_nil ?_
    refine w_if rfl (fun hc2 => ?_) (fun hc2 => ?_)
    ·
      refine w_reg ?_
      refine wr_y rfl (y_move rfl) ?_
      refine wr_y rfl (y_len Try.underlying22 rfl) ?_
      refine wr_y rfl (y_assign rfl) ?_
      refine wr_nil ?_
      refine w_seq ?_
      refine w_regd mixed ?_
      refine wd_y 0 rfl (by kernel_rfl) rfl (y_move rfl) ?_
      refine wd_y 1 rfl (by kernel_rfl) rfl (y_move rfl) ?_
      refine wd_y 2 rfl (by kernel_rfl) rfl (y_sliceTo Try.underlying22 sz5 rfl rfl (h_u.c _) (by omega) (by omega)) ?_
      refine wd_y 4 rfl (by kernel_rfl) rfl (y_move rfl) ?_
      refine wd_y 5 rfl (by kernel_rfl) rfl (y_len Try.underlying22 rfl) ?_
      refine wd_y 6 rfl (by kernel_rfl) rfl (y_move rfl) ?_
      refine wd_y 7 rfl (by kernel_rfl) rfl (y_quoI rfl rfl (by omega) (by omega) (by omega)) ?_
      refine wd_a 3 rfl (by kernel_rfl) rfl (a_callF en86 rfl (Ct.fresh (fun w hw => cloneB_ct ((RdC.toI (h_u.c _) (by omega)) w hw) (by rw [List.length_take]; omega)))) ?_
      rintro _ _ ⟨_, rfl, A_1, c_2, rfl, rfl⟩
      refine ⟨.inr fun _ h => h.right (R' := [_]), ?_⟩
      refine wd_y 8 rfl (by kernel_rfl) rfl (y_assign rfl) ?_
      refine wd_y 9 rfl (by kernel_rfl) rfl (y_assign rfl) ?_
      refine wd_nil (by kernel_rfl) ?_
      refine w_retR (R1 := [⟨5, 1, A_1, ((u).take (((u.length : Nat) : Int)).toNat).length, c_2, ints .u8 ((u).take (((u.length : Nat) : Int)).toNat), false⟩]) (fun _ h => h.sel [0] (by decide) rfl) ?_
      refine ⟨_, _, rfl, rfl, ?_⟩
      have e : rl u = u.length := by unfold rl; rw [if_pos (by assumption)]
      unfold rootW timesW
      rw [e]
      exact ⟨_, _, rfl, rfl⟩
    ·
      refine w_skip ?_
      refine w_seq ?_
      refine w_regd mixed ?_
      refine wd_y 0 rfl (by kernel_rfl) rfl (y_move rfl) ?_
      refine wd_y 1 rfl (by kernel_rfl) rfl (y_move rfl) ?_
      refine wd_y 2 rfl (by kernel_rfl) rfl (y_sliceTo Try.underlying22 sz5 rfl rfl (h_u.c _) (by omega) (by omega)) ?_
      refine wd_y 4 rfl (by kernel_rfl) rfl (y_move rfl) ?_
      refine wd_y 5 rfl (by kernel_rfl) rfl (y_len Try.underlying22 rfl) ?_
      refine wd_y 6 rfl (by kernel_rfl) rfl (y_move rfl) ?_
      refine wd_y 7 rfl (by kernel_rfl) rfl (y_quoI rfl rfl (by omega) (by omega) (by omega)) ?_
      refine wd_a 3 rfl (by kernel_rfl) rfl (a_callF en86 rfl (Ct.fresh (fun w hw => cloneB_ct ((RdC.toI (h_u.c _) (by omega)) w hw) (by rw [List.length_take]; omega)))) ?_
      rintro _ _ ⟨_, rfl, A_4, c_5, rfl, rfl⟩
      refine ⟨.inr fun _ h => h.right (R' := [_]), ?_⟩
      refine wd_y 8 rfl (by kernel_rfl) rfl (y_assign rfl) ?_
      refine wd_y 9 rfl (by kernel_rfl) rfl (y_assign rfl) ?_
      refine wd_nil (by kernel_rfl) ?_
      refine w_retR (R1 := [⟨5, 1, A_4, ((u).take (lp u).toNat).length, c_5, ints .u8 ((u).take (lp u).toNat), false⟩]) (fun _ h => h.sel [0] (by decide) rfl) ?_
      refine ⟨_, _, rfl, rfl, ?_⟩
      have e : rl u = lp u := by unfold rl; rw [if_neg (by assumption)]
      unfold rootW timesW
      rw [e]
      exact ⟨_, _, rfl, rfl⟩

end Go.Proofs.Ytdfcnalkdlifiaa

/-! ## S1 -/
namespace Go.Proofs
open Go.Shelf
def Try.laysSlF06_f80_ren : Go.Shelf.Ren := ⟨fun | 6 => 80 | 15 => 90 | 14 => 99 | 28 => 110 | 29 => 111 | 20 => 120 | 21 => 121 | 22 => 122 | 23 => 123 | 24 => 124 | 25 => 125 | 26 => 126 | 27 => 127 | 46 => 136 | 47 => 129 | 48 => 130 | 49 => 137 | 50 => 138 | 57 => 141 | n => n, fun | 22 => 49 | 24 => 51 | 25 => 100 | 3 => 3 | 39 => 84 | 0 => 0 | 53 => 105 | 55 => 108 | 4 => 4 | 46 => 117 | 45 => 116 | 50 => 121 | 5 => 5 | 9 => 9 | 66 => 135 | 70 => 139 | 76 => 145 | 77 => 146 | n => n, fun | n => n⟩
theorem Try.laysSlF06_f80 : Go.Proofs.SlLaysF0.n6 Try.prog Try.laysSlF06_f80_ren := {
  mixed := by kernel_rfl
  f6 := ⟨Try.f80.name, by decide, Try.func80.trans (congrArg some (by kernel_rfl))⟩
  f14 := ⟨Try.f99.name, by decide, Try.func99.trans (congrArg some (by kernel_rfl))⟩
  f15 := Try.func90.trans (congrArg some (by kernel_rfl))
  f20 := ⟨Try.f120.name, by decide, Try.func120.trans (congrArg some (by kernel_rfl))⟩
  f21 := ⟨Try.f121.name, by decide, Try.func121.trans (congrArg some (by kernel_rfl))⟩
  f22 := ⟨Try.f122.name, by decide, Try.func122.trans (congrArg some (by kernel_rfl))⟩
  f23 := ⟨Try.f123.name, by decide, Try.func123.trans (congrArg some (by kernel_rfl))⟩
  f24 := ⟨Try.f124.name, by decide, Try.func124.trans (congrArg some (by kernel_rfl))⟩
  f25 := ⟨Try.f125.name, by decide, Try.func125.trans (congrArg some (by kernel_rfl))⟩
  f26 := ⟨Try.f126.name, by decide, Try.func126.trans (congrArg some (by kernel_rfl))⟩
  f27 := ⟨Try.f127.name, by decide, Try.func127.trans (congrArg some (by kernel_rfl))⟩
  f28 := Try.func110.trans (congrArg some (by kernel_rfl))
  f29 := Try.func111.trans (congrArg some (by kernel_rfl))
  f46 := ⟨Try.f136.name, by decide, Try.func136.trans (congrArg some (by kernel_rfl))⟩
  f47 := Try.func129.trans (congrArg some (by kernel_rfl))
  f48 := Try.func130.trans (congrArg some (by kernel_rfl))
  f49 := ⟨Try.f137.name, by decide, Try.func137.trans (congrArg some (by kernel_rfl))⟩
  f50 := ⟨Try.f138.name, by decide, Try.func138.trans (congrArg some (by kernel_rfl))⟩
  f57 := ⟨Try.f141.name, by decide, Try.func141.trans (congrArg some (by kernel_rfl))⟩
  t0 := Try.underlying0
  a0 := Try.isAgg0
  z0 := Try.sizeOf0
  v0 := Try.zeroValue0
  t3 := Try.underlying3
  a3 := Try.isAgg3
  z3 := Try.sizeOf3
  v3 := Try.zeroValue3
  t4 := Try.underlying4
  a4 := Try.isAgg4
  z4 := Try.sizeOf4
  v4 := Try.zeroValue4
  t5 := Try.underlying5
  a5 := Try.isAgg5
  z5 := Try.sizeOf5
  v5 := Try.zeroValue5
  t9 := Try.underlying9
  a9 := Try.isAgg9
  z9 := Try.sizeOf9
  v9 := Try.zeroValue9
  t22 := Try.underlying49
  a22 := Try.isAgg49
  z22 := Try.sizeOf49
  v22 := Try.zeroValue49
  t25 := Try.underlying100
  a25 := Try.isAgg100
  z25 := Try.sizeOf100
  v25 := Try.zeroValue100
  t39 := Try.underlying84
  a39 := Try.isAgg84
  z39 := Try.sizeOf84
  v39 := Try.zeroValue84
  t45 := Try.underlying116
  a45 := Try.isAgg116
  z45 := Try.sizeOf116
  v45 := Try.zeroValue116
  t46 := Try.underlying117
  a46 := Try.isAgg117
  z46 := Try.sizeOf117
  v46 := Try.zeroValue117
  t50 := Try.underlying121
  a50 := Try.isAgg121
  z50 := Try.sizeOf121
  v50 := Try.zeroValue121
  t53 := Try.underlying105
  a53 := Try.isAgg105
  z53 := Try.sizeOf105
  v53 := Try.zeroValue105
  t55 := Try.underlying108
  a55 := Try.isAgg108
  z55 := Try.sizeOf108
  v55 := Try.zeroValue108
  t66 := Try.underlying135
  a66 := Try.isAgg135
  z66 := Try.sizeOf135
  v66 := Try.zeroValue135
  t70 := Try.underlying139
  a70 := Try.isAgg139
  z70 := Try.sizeOf139
  v70 := Try.zeroValue139
  t76 := Try.underlying145
  a76 := Try.isAgg145
  z76 := Try.sizeOf145
  v76 := Try.zeroValue145
  t77 := Try.underlying146
  a77 := Try.isAgg146
  z77 := Try.sizeOf146
  v77 := Try.zeroValue146 }
open Go.RowKit Go.Lib Go.Sort in
/-- **slices.SortFunc, IN THE DOCUMENTATION's OWN TERMS: A PERMUTATION OF WHAT THE ROW HELD, SORTED BY 'cmp(a, b) < 0'.** Which of two equals comes first is left open ("The sort is not guaranteed to be stable"). (LAID AT THE INSTANCE 'slices.SortFunc[[][2]int,[2]int]': no walk: one application.) -/
theorem Try.slices_SortFunc {α : Type} [Inhabited α] (k : Nat) (aE : ∀ w, (isAgg 51).run Try.prog w = .ok true w) (zE : ∀ w, (Go.sizeOf 51).run Try.prog w = .ok k w) (enc : α → List Value) (hk : ∀ x, (enc x).length = k) (h1 : ∀ x, ∀ v ∈ enc x, v.oneCell' = true) (cf : α → α → Int) (hO : SWO (ltOf cf)) (g : Nat) (cb : Array Value) (blk off cap : Nat) (d : Array α) (w : World) (eg : ∀ args w, (callFunc g args).run Try.prog w = .ok (.enter g args) w) (hcmp : CmpLays Try.prog g cb enc k cf blk off d.size w) (hH : HoldsK enc k w blk off d) (hblk : blk < w.heap.size) (hsz : d.size < 4611686018427387904) :
    Calls Try.prog 80 #[.slice (some ⟨blk, off, none⟩) d.size cap, .func (.func g) #[] cb] w fun e w' =>
      e = .returned (.tuple #[]) ∧ ∃ d' n os, PermIn 0 d.size d d' ∧ SortedIn (ltOf cf) 0 d.size d' ∧ w' = sortWorldK enc k w blk off n d' os := AnyQ.slices_SortFunc Try.laysSlF06_f80 k aE zE enc hk h1 cf hO g cb blk off cap d w eg hcmp hH hblk hsz
end Go.Proofs

/-! ## F6 -/
namespace Go.Proofs.Ytdfcnalkdlifiaa
open Go Go.Eng Go.Pure
set_option linter.unusedVariables false
set_option maxRecDepth 100000 in
theorem orI_ct {w : World} {A_l : Option Addr} {n_l c_l : Nat} {l : List Int} (h_l : Rd w A_l n_l c_l 1 (ints .i64 l)) :
    Ct Try.prog 66 #[.slice A_l n_l c_l] w.heap.size w [] (fun v R' => v = .int .i64 (orL l)) := by
  obtain rfl := h_l.lenI
  refine fn1 Try.func66 rfl rfl rfl ?_
  have m_l := h_l.max
  refine w_seq ?_
  refine w_reg ?_
  refine wr_y rfl (y_assign rfl) ?_
  refine wr_nil ?_
  refine w_seq ?_
  refine w_reg ?_
  refine wr_y rfl (y_assign rfl) ?_
  refine wr_nil ?_
  refine w_seq ?_
  refine w_seq ?_
  refine w_reg ?_
  refine wr_y rfl (y_move rfl) ?_
  refine wr_y rfl (y_len Try.underlying35 rfl) ?_
  refine wr_y rfl (y_move rfl) ?_
  refine wr_nil ?_
  refine w_block ?_
  refine w_loop1 (fun (k : Int) => [(3, .int .i64 0), (6, .slice A_l l.length c_l), (7, .int .i64 ((l.length : Nat) : Int)), (8, .int .i64 k)]) (fun (k : Int) => []) (fun (k : Int) => (0 ≤ k) ∧ (k ≤ l.length) ∧ (orL l = orL (l.drop k.toNat))) (fun (k : Int) => (l.length - k).toNat) ?_ ?_
  ·
    exact ⟨0, ⟨(by omega), (by omega), (rfl)⟩, (Sub.cons rfl (Sub.cons rfl (Sub.cons rfl (Sub.cons rfl Sub.nil)))), fun _ h => h⟩
  intro k ⟨hk0, hk1, ho⟩
  refine w_seq ?_
  refine w_reg ?_
  refine wr_y rfl (y_lt rfl rfl) ?_
  refine wr_nil ?_
  refine w_seq ?_
  refine w_if rfl (fun hc1 => ?_) (fun hc1 => ?_)
  ·
    refine w_skip ?_
    refine w_seq ?_
    refine w_block ?_
    refine w_seq ?_
    refine w_reg ?_
    refine wr_y rfl (y_index1 Try.underlying35 sz3 rfl rfl (h_l.c _) (by omega) (by omega)) ?_
    refine wr_y rfl (y_ldI Try.underlying3 rfl rfl (h_l.c _) (by omega) (by omega)) ?_
    refine wr_y rfl (y_assign rfl) ?_
    refine wr_nil ?_
    refine w_seq ?_
    refine w_reg ?_
    refine wr_y rfl (y_move rfl) ?_
    refine wr_y rfl (y_move rfl) ?_
    refine wr_y rfl (y_ne rfl rfl) ?_
    refine wr_nil ?_
    refine w_if rfl (fun hc2 => ?_) (fun hc2 => ?_)
    ·
      refine w_seq ?_
      refine w_reg ?_
      refine wr_y rfl (y_move rfl) ?_
      refine wr_y rfl (y_assign rfl) ?_
      refine wr_nil ?_
      refine w_ret ?_
      refine ⟨_, rfl, ?_⟩
      exact congrArg (Value.int .i64) (by rw [ho, orL_hit hk0 (by omega) (by omega)])
    ·
      refine w_skip ?_
      refine w_reg ?_
      refine wr_y rfl (y_addI rfl rfl (by omega)) ?_
      refine wr_y rfl (y_move rfl) ?_
      refine wr_nil ?_
      exact ⟨k + 1, ⟨(by omega), (by omega), (by rw [ho, orL_go hk0 (by omega) (by omega)])⟩, (by omega), (Sub.cons rfl (Sub.cons rfl (Sub.cons rfl (Sub.cons rfl Sub.nil)))), fun _ h => h⟩
  ·
    refine w_exit ?_
    refine w_seq ?_
    refine w_reg ?_
    refine wr_y rfl (y_move rfl) ?_
    refine wr_y rfl (y_assign rfl) ?_
    refine wr_nil ?_
    refine w_ret ?_
    refine ⟨_, rfl, ?_⟩
    exact congrArg (Value.int .i64) (by rw [ho, List.drop_of_length_le (by omega)]; rfl)

set_option maxRecDepth 100000 in
theorem ahead_ct {w : World} {g_s : Nat} {A_w A_t A_b A_r : Option Addr} {n_t c_w c_t c_b c_r : Nat} {vals_w : List Value} {ws : List (List Int)} {bs rs : List Int} {t1 t2 : Int} {h : Int} (h_s : Rd w (some ⟨g_s, 0, none⟩) 1 1 4 [.slice A_w ws.length c_w, .slice A_t n_t c_t, .slice A_b bs.length c_b, .slice A_r rs.length c_r]) (h_w : Rd w A_w ws.length c_w 1 vals_w) (s_w : SlW .u8 w vals_w ws) (h_b : Rd w A_b bs.length c_b 1 (ints .i64 bs)) (h_r : Rd w A_r rs.length c_r 1 (ints .i64 rs)) (ha_t : 0 ≤ t1 ∧ t1 < ws.length ∧ t1 < bs.length) (hb_t : 0 ≤ t2 ∧ t2 ≤ 1000000) (hc_t : 0 < (rdl ws t1).length) (hd_t : 0 ≤ rd bs t1 ∧ rd bs t1 + (rdl ws t1).length ≤ rs.length) (hh : 0 ≤ h ∧ h ≤ 1000000) :
    Ct Try.prog 83 #[.pointer (some ⟨g_s, 0, none⟩), .agg #[.int .i64 t1, .int .i64 t2], .int .i64 h] w.heap.size w [] (fun v R' => v = .int .i64 (ahd ws bs rs (t1, t2) h)) := by
  refine fn1 Try.func83 rfl rfl rfl ?_
  have m_r := h_r.max
  have m_b := h_b.max
  have m_w := h_w.max
  have e1 := Int.emod_nonneg (t2 + h) (show ((rdl ws t1).length : Int) ≠ 0 by omega)
  have e2 := Int.emod_lt_of_pos (t2 + h) (show (0 : Int) < ((rdl ws t1).length : Int) by omega)
  refine w_seq ?_
  refine w_reg ?_
  refine wr_a rfl (a_box (sz := 2) rfl rfl) ?_
  rintro _ _ ⟨g_1, rfl, rfl⟩
  refine wr_rows (R1 := [⟨51, 2, (some ⟨g_1, 0, none⟩), 1, 1, [.int .i64 t1, .int .i64 t2], false⟩]) rfl ?_
  refine wr_y rfl (y_assign rfl) ?_
  refine wr_nil ?_
  refine w_seq ?_
  refine w_regd mixed ?_
  refine wd_y 0 rfl (by kernel_rfl) rfl (y_move rfl) ?_
  refine wd_y 1 rfl (by kernel_rfl) rfl (y_nilCheck rfl) ?_
  refine wd_y 2 rfl (by kernel_rfl) rfl (y_fieldAt (off := 3) (m := 3) Try.underlying76 rfl sz35 rfl rfl rfl) ?_
  refine wd_y 3 rfl (by kernel_rfl) rfl (y_ldIn (h_s.c _) Try.underlying35 rfl rfl rfl) ?_
  refine wd_y 4 rfl (by kernel_rfl) rfl (y_move rfl) ?_
  refine wd_y 5 rfl (by kernel_rfl) rfl (y_nilCheck rfl) ?_
  refine wd_y 6 rfl (by kernel_rfl) rfl (y_fieldAt (off := 2) (m := 2) Try.underlying76 rfl sz35 rfl rfl rfl) ?_
  refine wd_y 7 rfl (by kernel_rfl) rfl (y_ldIn (h_s.c _) Try.underlying35 rfl rfl rfl) ?_
  refine wd_y 8 rfl (by kernel_rfl) rfl (y_indexIn (q := 0) (rdR 0 (r := ⟨51, 2, (some ⟨g_1, 0, none⟩), 1, 1, [.int .i64 t1, .int .i64 t2], false⟩) rfl) Try.underlying51 sz3 rfl rfl (Nat.le_of_ble_eq_true rfl) (by decide) (by decide) rfl) ?_
  refine wd_y 9 rfl (by kernel_rfl) rfl (y_ldIn (rdR 0 (r := ⟨51, 2, (some ⟨g_1, 0, none⟩), 1, 1, [.int .i64 t1, .int .i64 t2], false⟩) rfl) Try.underlying3 rfl rfl rfl) ?_
  refine wd_y 10 rfl (by kernel_rfl) rfl (y_index1 Try.underlying35 sz3 rfl rfl (h_b.c _) (by omega) (by omega)) ?_
  refine wd_y 11 rfl (by kernel_rfl) rfl (y_ldI Try.underlying3 rfl rfl (h_b.c _) (by omega) (by omega)) ?_
  refine wd_y 12 rfl (by kernel_rfl) rfl (y_indexIn (q := 1) (rdR 0 (r := ⟨51, 2, (some ⟨g_1, 0, none⟩), 1, 1, [.int .i64 t1, .int .i64 t2], false⟩) rfl) Try.underlying51 sz3 rfl rfl (Nat.le_of_ble_eq_true rfl) (by decide) (by decide) rfl) ?_
  refine wd_y 13 rfl (by kernel_rfl) rfl (y_ldIn (rdR 0 (r := ⟨51, 2, (some ⟨g_1, 0, none⟩), 1, 1, [.int .i64 t1, .int .i64 t2], false⟩) rfl) Try.underlying3 rfl rfl rfl) ?_
  refine wd_y 14 rfl (by kernel_rfl) rfl (y_move rfl) ?_
  refine wd_y 15 rfl (by kernel_rfl) rfl (y_addI rfl rfl (by omega)) ?_
  refine wd_y 16 rfl (by kernel_rfl) rfl (y_move rfl) ?_
  refine wd_y 17 rfl (by kernel_rfl) rfl (y_nilCheck rfl) ?_
  refine wd_y 18 rfl (by kernel_rfl) rfl (y_fieldAt (off := 0) (m := 0) Try.underlying76 rfl sz30 rfl rfl rfl) ?_
  refine wd_y 19 rfl (by kernel_rfl) rfl (y_ldIn (h_s.c _) Try.underlying30 rfl rfl rfl) ?_
  refine wd_y 20 rfl (by kernel_rfl) rfl (y_indexIn (q := 0) (rdR 0 (r := ⟨51, 2, (some ⟨g_1, 0, none⟩), 1, 1, [.int .i64 t1, .int .i64 t2], false⟩) rfl) Try.underlying51 sz3 rfl rfl (Nat.le_of_ble_eq_true rfl) (by decide) (by decide) rfl) ?_
  refine wd_y 21 rfl (by kernel_rfl) rfl (y_ldIn (rdR 0 (r := ⟨51, 2, (some ⟨g_1, 0, none⟩), 1, 1, [.int .i64 t1, .int .i64 t2], false⟩) rfl) Try.underlying3 rfl rfl rfl) ?_
  refine wd_y 22 rfl (by kernel_rfl) rfl (y_index1 Try.underlying30 sz22 rfl rfl (h_w.c _) (by omega) (by omega)) ?_
  obtain ⟨A_3, c_4, hv_5, hr_6, hb_7, mhr_6⟩ := s_w.at (i := t1) (by omega) (by omega)
  refine wd_y 23 rfl (by kernel_rfl) rfl (y_ld Try.underlying22 rfl rfl rfl (h_w.c _) hv_5) ?_
  refine wd_y 24 rfl (by kernel_rfl) rfl (y_len Try.underlying22 rfl) ?_
  refine wd_y 25 rfl (by kernel_rfl) rfl (y_rem rfl rfl (by omega) (by omega)) ?_
  refine wd_y 26 rfl (by kernel_rfl) rfl (y_addI rfl rfl (by omega)) ?_
  refine wd_y 27 rfl (by kernel_rfl) rfl (y_index1 Try.underlying35 sz3 rfl rfl (h_r.c _) (by omega) (by omega)) ?_
  refine wd_y 28 rfl (by kernel_rfl) rfl (y_ldI Try.underlying3 rfl rfl (h_r.c _) (by omega) (by omega)) ?_
  refine wd_y 29 rfl (by kernel_rfl) rfl (y_assign rfl) ?_
  refine wd_nil (by kernel_rfl) ?_
  refine w_retR (R1 := []) (fun _ h => h.sel [] (by decide) rfl) ?_
  refine ⟨_, rfl, ?_⟩
  rfl

set_option maxRecDepth 100000 in
theorem own_ct {w : World} {g_s : Nat} {A_w A_t A_b A_r : Option Addr} {n_t c_w c_t c_b c_r : Nat} {vals_w : List Value} {ws : List (List Int)} {bs rs : List Int} {t1 t2 : Int} (h_s : Rd w (some ⟨g_s, 0, none⟩) 1 1 4 [.slice A_w ws.length c_w, .slice A_t n_t c_t, .slice A_b bs.length c_b, .slice A_r rs.length c_r]) (h_w : Rd w A_w ws.length c_w 1 vals_w) (s_w : SlW .u8 w vals_w ws) (h_b : Rd w A_b bs.length c_b 1 (ints .i64 bs)) (h_r : Rd w A_r rs.length c_r 1 (ints .i64 rs)) (ha_t : 0 ≤ t1 ∧ t1 < ws.length ∧ t1 < bs.length) (hb_t : 0 ≤ t2 ∧ t2 ≤ 1000000) (hc_t : 0 < (rdl ws t1).length) (hd_t : 0 ≤ rd bs t1 ∧ rd bs t1 + (rdl ws t1).length ≤ rs.length) :
    Ct Try.prog 82 #[.pointer (some ⟨g_s, 0, none⟩), .agg #[.int .i64 t1, .int .i64 t2]] w.heap.size w [] (fun v R' => v = .int .i64 (ahd ws bs rs (t1, t2) 0)) := by
  refine fn1 Try.func82 rfl rfl rfl ?_
  have m_r := h_r.max
  have m_b := h_b.max
  have m_w := h_w.max
  refine w_seq ?_
  refine w_reg ?_
  refine wr_a rfl (a_box (sz := 2) rfl rfl) ?_
  rintro _ _ ⟨g_1, rfl, rfl⟩
  refine wr_rows (R1 := [⟨51, 2, (some ⟨g_1, 0, none⟩), 1, 1, [.int .i64 t1, .int .i64 t2], false⟩]) rfl ?_
  refine wr_y rfl (y_assign rfl) ?_
  refine wr_nil ?_
  refine w_seq ?_
  refine w_reg ?_
  refine wr_y rfl (y_move rfl) ?_
  refine wr_y rfl (y_ldInA (vs := [.int .i64 t1, .int .i64 t2]) (rdR 0 (r := ⟨51, 2, (some ⟨g_1, 0, none⟩), 1, 1, [.int .i64 t1, .int .i64 t2], false⟩) rfl) Try.underlying51 rfl sz51 rfl rfl (Nat.le_of_ble_eq_true rfl) rfl) ?_
  refine wr_a rfl (a_callF en83 rfl (Ct.quiet (fun w hw => ahead_ct ((h_s.c _) w hw) ((h_w.c _) w hw) (s_w.c hw) ((h_b.c _) w hw) ((h_r.c _) w hw) (by first | assumption | omega | decide) (by first | assumption | omega | decide) (by first | assumption | omega | decide) (by first | assumption | omega | decide) (by first | assumption | omega | decide)))) ?_
  rintro _ _ ⟨rfl, rfl⟩
  refine wr_y rfl (y_assign rfl) ?_
  refine wr_nil ?_
  refine w_retR (R1 := []) (fun _ h => h.sel [] (by decide) rfl) ?_
  refine ⟨_, rfl, ?_⟩
  rfl

set_option maxRecDepth 100000 in
theorem turnCmp_ct {w : World} {t1 t2 : Int} {u1 u2 : Int} {g_s : Nat} {A_w A_t A_b A_r : Option Addr} {n_t c_w c_t c_b c_r : Nat} {vals_w : List Value} {ws : List (List Int)} {bs rs : List Int} {g_p : Nat} {g_h : Nat} {h : Int} (h_s : Rd w (some ⟨g_s, 0, none⟩) 1 1 4 [.slice A_w ws.length c_w, .slice A_t n_t c_t, .slice A_b bs.length c_b, .slice A_r rs.length c_r]) (h_w : Rd w A_w ws.length c_w 1 vals_w) (s_w : SlW .u8 w vals_w ws) (h_b : Rd w A_b bs.length c_b 1 (ints .i64 bs)) (h_r : Rd w A_r rs.length c_r 1 (ints .i64 rs)) (h_p : Rd w (some ⟨g_p, 0, none⟩) 1 1 1 [.pointer (some ⟨g_s, 0, none⟩)]) (h_h : Rd w (some ⟨g_h, 0, none⟩) 1 1 1 [.int .i64 h]) (ha_t : 0 ≤ t1 ∧ t1 < ws.length ∧ t1 < bs.length) (hb_t : 0 ≤ t2 ∧ t2 ≤ 1000000) (hc_t : 0 < (rdl ws t1).length) (hd_t : 0 ≤ rd bs t1 ∧ rd bs t1 + (rdl ws t1).length ≤ rs.length) (ha_u : 0 ≤ u1 ∧ u1 < ws.length ∧ u1 < bs.length) (hb_u : 0 ≤ u2 ∧ u2 ≤ 1000000) (hc_u : 0 < (rdl ws u1).length) (hd_u : 0 ≤ rd bs u1 ∧ rd bs u1 + (rdl ws u1).length ≤ rs.length) (hh : 0 ≤ h ∧ h ≤ 1000000) :
    Ct Try.prog 81 #[.agg #[.int .i64 t1, .int .i64 t2], .agg #[.int .i64 u1, .int .i64 u2], .pointer (some ⟨g_p, 0, none⟩), .pointer (some ⟨g_h, 0, none⟩)] w.heap.size w [] (fun v R' => v = .int .i64 (tcmp ws bs rs h (t1, t2) (u1, u2))) := by
  refine fn1 Try.func81 rfl rfl rfl ?_
  have m_r := h_r.max
  have m_b := h_b.max
  have m_w := h_w.max
  refine w_seq ?_
  refine w_reg ?_
  refine wr_a rfl (a_box (sz := 2) rfl rfl) ?_
  rintro _ _ ⟨g_1, rfl, rfl⟩
  refine wr_rows (R1 := [⟨51, 2, (some ⟨g_1, 0, none⟩), 1, 1, [.int .i64 t1, .int .i64 t2], false⟩]) rfl ?_
  refine wr_a rfl (a_box (sz := 2) rfl rfl) ?_
  rintro _ _ ⟨g_3, rfl, rfl⟩
  refine wr_rows (R1 := [⟨51, 2, (some ⟨g_3, 0, none⟩), 1, 1, [.int .i64 u1, .int .i64 u2], false⟩, ⟨51, 2, (some ⟨g_1, 0, none⟩), 1, 1, [.int .i64 t1, .int .i64 t2], false⟩]) rfl ?_
  refine wr_y rfl (y_assign rfl) ?_
  refine wr_nil ?_
  refine w_seq ?_
  refine w_regd mixed ?_
  refine wd_y 0 rfl (by kernel_rfl) rfl (y_ldIn (h_p.c _) Try.underlying74 rfl rfl rfl) ?_
  refine wd_y 1 rfl (by kernel_rfl) rfl (y_ldInA (vs := [.int .i64 t1, .int .i64 t2]) (rdR 1 (r := ⟨51, 2, (some ⟨g_1, 0, none⟩), 1, 1, [.int .i64 t1, .int .i64 t2], false⟩) rfl) Try.underlying51 rfl sz51 rfl rfl (Nat.le_of_ble_eq_true rfl) rfl) ?_
  refine wd_y 3 rfl (by kernel_rfl) rfl (y_ldIn (h_p.c _) Try.underlying74 rfl rfl rfl) ?_
  refine wd_y 4 rfl (by kernel_rfl) rfl (y_ldInA (vs := [.int .i64 u1, .int .i64 u2]) (rdR 0 (r := ⟨51, 2, (some ⟨g_3, 0, none⟩), 1, 1, [.int .i64 u1, .int .i64 u2], false⟩) rfl) Try.underlying51 rfl sz51 rfl rfl (Nat.le_of_ble_eq_true rfl) rfl) ?_
  refine wd_y 7 rfl (by kernel_rfl) rfl (y_ldIn (h_p.c _) Try.underlying74 rfl rfl rfl) ?_
  refine wd_y 8 rfl (by kernel_rfl) rfl (y_ldInA (vs := [.int .i64 t1, .int .i64 t2]) (rdR 1 (r := ⟨51, 2, (some ⟨g_1, 0, none⟩), 1, 1, [.int .i64 t1, .int .i64 t2], false⟩) rfl) Try.underlying51 rfl sz51 rfl rfl (Nat.le_of_ble_eq_true rfl) rfl) ?_
  refine wd_y 9 rfl (by kernel_rfl) rfl (y_ldIn (h_h.c _) Try.underlying3 rfl rfl rfl) ?_
  refine wd_y 11 rfl (by kernel_rfl) rfl (y_ldIn (h_p.c _) Try.underlying74 rfl rfl rfl) ?_
  refine wd_y 12 rfl (by kernel_rfl) rfl (y_ldInA (vs := [.int .i64 u1, .int .i64 u2]) (rdR 0 (r := ⟨51, 2, (some ⟨g_3, 0, none⟩), 1, 1, [.int .i64 u1, .int .i64 u2], false⟩) rfl) Try.underlying51 rfl sz51 rfl rfl (Nat.le_of_ble_eq_true rfl) rfl) ?_
  refine wd_y 13 rfl (by kernel_rfl) rfl (y_ldIn (h_h.c _) Try.underlying3 rfl rfl rfl) ?_
  refine wd_y 16 rfl (by kernel_rfl) rfl (y_indexIn (q := 0) (rdR 1 (r := ⟨51, 2, (some ⟨g_1, 0, none⟩), 1, 1, [.int .i64 t1, .int .i64 t2], false⟩) rfl) Try.underlying51 sz3 rfl rfl (Nat.le_of_ble_eq_true rfl) (by decide) (by decide) rfl) ?_
  refine wd_y 17 rfl (by kernel_rfl) rfl (y_ldIn (rdR 1 (r := ⟨51, 2, (some ⟨g_1, 0, none⟩), 1, 1, [.int .i64 t1, .int .i64 t2], false⟩) rfl) Try.underlying3 rfl rfl rfl) ?_
  refine wd_y 18 rfl (by kernel_rfl) rfl (y_indexIn (q := 0) (rdR 0 (r := ⟨51, 2, (some ⟨g_3, 0, none⟩), 1, 1, [.int .i64 u1, .int .i64 u2], false⟩) rfl) Try.underlying51 sz3 rfl rfl (Nat.le_of_ble_eq_true rfl) (by decide) (by decide) rfl) ?_
  refine wd_y 19 rfl (by kernel_rfl) rfl (y_ldIn (rdR 0 (r := ⟨51, 2, (some ⟨g_3, 0, none⟩), 1, 1, [.int .i64 u1, .int .i64 u2], false⟩) rfl) Try.underlying3 rfl rfl rfl) ?_
  refine wd_y 21 rfl (by kernel_rfl) rfl (y_indexIn (q := 1) (rdR 1 (r := ⟨51, 2, (some ⟨g_1, 0, none⟩), 1, 1, [.int .i64 t1, .int .i64 t2], false⟩) rfl) Try.underlying51 sz3 rfl rfl (Nat.le_of_ble_eq_true rfl) (by decide) (by decide) rfl) ?_
  refine wd_y 22 rfl (by kernel_rfl) rfl (y_ldIn (rdR 1 (r := ⟨51, 2, (some ⟨g_1, 0, none⟩), 1, 1, [.int .i64 t1, .int .i64 t2], false⟩) rfl) Try.underlying3 rfl rfl rfl) ?_
  refine wd_y 23 rfl (by kernel_rfl) rfl (y_indexIn (q := 1) (rdR 0 (r := ⟨51, 2, (some ⟨g_3, 0, none⟩), 1, 1, [.int .i64 u1, .int .i64 u2], false⟩) rfl) Try.underlying51 sz3 rfl rfl (Nat.le_of_ble_eq_true rfl) (by decide) (by decide) rfl) ?_
  refine wd_y 24 rfl (by kernel_rfl) rfl (y_ldIn (rdR 0 (r := ⟨51, 2, (some ⟨g_3, 0, none⟩), 1, 1, [.int .i64 u1, .int .i64 u2], false⟩) rfl) Try.underlying3 rfl rfl rfl) ?_
  refine wd_a 2 rfl (by kernel_rfl) rfl (a_callF en82 rfl (Ct.quiet (fun w hw => own_ct ((h_s.c _) w hw) ((h_w.c _) w hw) (s_w.c hw) ((h_b.c _) w hw) ((h_r.c _) w hw) (by first | assumption | omega | decide) (by first | assumption | omega | decide) (by first | assumption | omega | decide) (by first | assumption | omega | decide)))) ?_
  rintro _ _ ⟨rfl, rfl⟩
  refine ⟨.inr fun _ h => h, ?_⟩
  refine wd_a 5 rfl (by kernel_rfl) rfl (a_callF en82 rfl (Ct.quiet (fun w hw => own_ct ((h_s.c _) w hw) ((h_w.c _) w hw) (s_w.c hw) ((h_b.c _) w hw) ((h_r.c _) w hw) (by first | assumption | omega | decide) (by first | assumption | omega | decide) (by first | assumption | omega | decide) (by first | assumption | omega | decide)))) ?_
  rintro _ _ ⟨rfl, rfl⟩
  refine ⟨.inr fun _ h => h, ?_⟩
  refine wd_a 6 rfl (by kernel_rfl) rfl (a_callF en68 rfl (Ct.quiet (fun w hw => compareI_ct))) ?_
  rintro _ _ ⟨rfl, rfl⟩
  refine ⟨.inr fun _ h => h, ?_⟩
  refine wd_a 10 rfl (by kernel_rfl) rfl (a_callF en83 rfl (Ct.quiet (fun w hw => ahead_ct ((h_s.c _) w hw) ((h_w.c _) w hw) (s_w.c hw) ((h_b.c _) w hw) ((h_r.c _) w hw) (by first | assumption | omega | decide) (by first | assumption | omega | decide) (by first | assumption | omega | decide) (by first | assumption | omega | decide) (by first | assumption | omega | decide)))) ?_
  rintro _ _ ⟨rfl, rfl⟩
  refine ⟨.inr fun _ h => h, ?_⟩
  refine wd_a 14 rfl (by kernel_rfl) rfl (a_callF en83 rfl (Ct.quiet (fun w hw => ahead_ct ((h_s.c _) w hw) ((h_w.c _) w hw) (s_w.c hw) ((h_b.c _) w hw) ((h_r.c _) w hw) (by first | assumption | omega | decide) (by first | assumption | omega | decide) (by first | assumption | omega | decide) (by first | assumption | omega | decide) (by first | assumption | omega | decide)))) ?_
  rintro _ _ ⟨rfl, rfl⟩
  refine ⟨.inr fun _ h => h, ?_⟩
  refine wd_a 15 rfl (by kernel_rfl) rfl (a_callF en68 rfl (Ct.quiet (fun w hw => compareI_ct))) ?_
  rintro _ _ ⟨rfl, rfl⟩
  refine ⟨.inr fun _ h => h, ?_⟩
  refine wd_a 20 rfl (by kernel_rfl) rfl (a_callF en68 rfl (Ct.quiet (fun w hw => compareI_ct))) ?_
  rintro _ _ ⟨rfl, rfl⟩
  refine ⟨.inr fun _ h => h, ?_⟩
  refine wd_a 25 rfl (by kernel_rfl) rfl (a_callF en68 rfl (Ct.quiet (fun w hw => compareI_ct))) ?_
  rintro _ _ ⟨rfl, rfl⟩
  refine ⟨.inr fun _ h => h, ?_⟩
  refine wd_a 26 rfl (by kernel_rfl) rfl (a_litI .i64 [cmpI (ahd ws bs rs (t1, t2) 0) (ahd ws bs rs (u1, u2) 0), cmpI (ahd ws bs rs (t1, t2) h) (ahd ws bs rs (u1, u2) h), cmpI t1 u1, cmpI t2 u2] Try.underlying35 zs3 rfl rfl rfl) ?_
  rintro _ _ ⟨g_6, rfl, rfl⟩
  refine ⟨.inr fun _ h => h.right (R' := [_]), ?_⟩
  refine wd_a 27 rfl (by kernel_rfl) rfl (a_callF en66 rfl (Ct.quiet (fun w hw => orI_ct ((rdr 0 rfl) w hw)))) ?_
  rintro _ _ ⟨rfl, rfl⟩
  refine ⟨.inr fun _ h => h, ?_⟩
  refine wd_y 28 rfl (by kernel_rfl) rfl (y_assign rfl) ?_
  refine wd_nil (by kernel_rfl) ?_
  refine w_retR (R1 := []) (fun _ h => h.sel [] (by decide) rfl) ?_
  refine ⟨_, rfl, ?_⟩
  rfl

theorem sortsTurns (cb : Array Value) : SortsK2 Try.prog 80 81 cb := fun α _ enc hk h1 cf hO blk off cap d w hcmp hH hblk hsz =>
  Try.slices_SortFunc 2 (fun w => by kernel_rfl) (fun w => by kernel_rfl) enc hk h1 cf hO 81 cb blk off cap d w en81 hcmp hH hblk hsz
set_option maxRecDepth 100000 in
theorem doubles_ct {B : Nat} {w0 : World} {R : List Row} {g_s : Nat} {A_w A_t A_b A_r A_o : Option Addr} {n_t n_o n_b n_r c_w c_t c_b c_r c_o : Nat} {vals_w : List Value} {ws : List (List Int)} {bs rs : List Int} {ts : List (Int × Int)} {h : Int} (hno : n_o = ts.length) (hnb : n_b = bs.length) (hnr : n_r = rs.length) (hrw : RdC B w0 R A_w ws.length c_w 1 vals_w) (hsw : ∀ w, Hp B w0 w R → SlW .u8 w vals_w ws) (hv : ∀ t ∈ ts, TOk ws bs rs.length t) (hinj : ∀ t ∈ ts, ∀ u ∈ ts, posT bs t = posT bs u → t = u) (hnd : ts.Nodup) (hne : ts ≠ []) (hN : rs.length ≤ 1000000 ∧ ts.length ≤ 1000000) (hh : 0 ≤ h ∧ h ≤ 1000000) :
    Ct Try.prog 59 #[.pointer (some ⟨g_s, 0, none⟩), .slice A_o n_o c_o, .int .i64 h] B w0 (⟨76, 4, (some ⟨g_s, 0, none⟩), 1, 1, [.slice A_w ws.length c_w, .slice A_t n_t c_t, .slice A_b n_b c_b, .slice A_r n_r c_r], false⟩ :: ⟨51, 2, A_o, n_o, c_o, prs ts, false⟩ :: ⟨3, 1, A_b, n_b, c_b, ints .i64 bs, false⟩ :: ⟨3, 1, A_r, n_r, c_r, ints .i64 rs, false⟩ :: R) (fun v R' => ∃ (l1 : List (Int × Int)) (rk : List Int) (A' : Option Addr) (c' : Nat), v = .int .i64 (clsF ws bs rs h l1 (l1.length - 1)) ∧ l1.Perm ts ∧ l1.Pairwise (fun x y => ¬ tcmp ws bs rs h y x < 0) ∧ rk.length = rs.length ∧ (∀ j : Nat, j < l1.length → rd rk (posT bs (rdp l1 j)) = clsF ws bs rs h l1 j) ∧ R' = ⟨76, 4, (some ⟨g_s, 0, none⟩), 1, 1, [.slice A_w ws.length c_w, .slice A_t n_t c_t, .slice A_b n_b c_b, .slice A' n_r c'], false⟩ :: ⟨51, 2, A_o, n_o, c_o, prs l1, false⟩ :: ⟨3, 1, A_b, n_b, c_b, ints .i64 bs, false⟩ :: ⟨3, 1, A', n_r, c', ints .i64 rk, false⟩ :: R) := by
  subst hno; subst hnb; subst hnr
  refine fn1 Try.func59 rfl rfl rfl ?_
  have hinj1 : ∀ t ∈ ts, 0 ≤ posT bs t := fun t ht => by have := hv t ht; unfold TOk at this; unfold posT; omega
  refine w_seq ?_
  refine w_reg ?_
  refine wr_a rfl (a_box (sz := 1) rfl rfl) ?_
  rintro _ _ ⟨g_1, rfl, rfl⟩
  refine wr_rows (R1 := (⟨74, 1, (some ⟨g_1, 0, none⟩), 1, 1, [.pointer (some ⟨g_s, 0, none⟩)], false⟩ :: ⟨76, 4, (some ⟨g_s, 0, none⟩), 1, 1, [.slice A_w ws.length c_w, .slice A_t n_t c_t, .slice A_b bs.length c_b, .slice A_r rs.length c_r], false⟩ :: ⟨51, 2, A_o, ts.length, c_o, prs ts, false⟩ :: ⟨3, 1, A_b, bs.length, c_b, ints .i64 bs, false⟩ :: ⟨3, 1, A_r, rs.length, c_r, ints .i64 rs, false⟩ :: R)) rfl ?_
  refine wr_a rfl (a_box (sz := 1) rfl rfl) ?_
  rintro _ _ ⟨g_3, rfl, rfl⟩
  refine wr_rows (R1 := (⟨3, 1, (some ⟨g_3, 0, none⟩), 1, 1, [.int .i64 h], false⟩ :: ⟨74, 1, (some ⟨g_1, 0, none⟩), 1, 1, [.pointer (some ⟨g_s, 0, none⟩)], false⟩ :: ⟨76, 4, (some ⟨g_s, 0, none⟩), 1, 1, [.slice A_w ws.length c_w, .slice A_t n_t c_t, .slice A_b bs.length c_b, .slice A_r rs.length c_r], false⟩ :: ⟨51, 2, A_o, ts.length, c_o, prs ts, false⟩ :: ⟨3, 1, A_b, bs.length, c_b, ints .i64 bs, false⟩ :: ⟨3, 1, A_r, rs.length, c_r, ints .i64 rs, false⟩ :: R)) rfl ?_
  refine wr_y rfl (y_assign rfl) ?_
  refine wr_nil ?_
  refine w_seq ?_
  refine w_reg ?_
  refine wr_y rfl (y_move rfl) ?_
  refine wr_y rfl (y_makeFunc rfl rfl) ?_
  refine wr_a rfl (a_callF en80 rfl (sort_pairs (sortsTurns _) 3 rfl hne (by omega) (tcmp ws bs rs h) (tcmp_swo ws bs rs h) (fun W hW x hx y hy => turnCmp_ct ((rdR 2 (r := ⟨76, 4, (some ⟨g_s, 0, none⟩), 1, 1, [.slice A_w ws.length c_w, .slice A_t n_t c_t, .slice A_b bs.length c_b, .slice A_r rs.length c_r], false⟩) rfl) W hW) ((RdC.right hrw [_, _, _, _, _]) W hW) (hsw W (Hp.right (R' := [_, _, _, _, _]) hW)) ((rdR 3 (r := ⟨3, 1, A_b, bs.length, c_b, ints .i64 bs, false⟩) rfl) W hW) ((rdR 4 (r := ⟨3, 1, A_r, rs.length, c_r, ints .i64 rs, false⟩) rfl) W hW) ((rdR 1 (r := ⟨74, 1, (some ⟨g_1, 0, none⟩), 1, 1, [.pointer (some ⟨g_s, 0, none⟩)], false⟩) rfl) W hW) ((rdR 0 (r := ⟨3, 1, (some ⟨g_3, 0, none⟩), 1, 1, [.int .i64 h], false⟩) rfl) W hW) (hv x hx).1 (by have := (hv x hx).2.1; omega) (hv x hx).2.2.1 (hv x hx).2.2.2 (hv y hy).1 (by have := (hv y hy).2.1; omega) (hv y hy).2.2.1 (hv y hy).2.2.2 hh))) ?_
  rintro _ _ ⟨rfl, l1, hp1, hs1, rfl⟩
  have hl1 := hp1.length_eq
  have hv1 : ∀ t ∈ l1, TOk ws bs rs.length t := fun t ht => hv t (hp1.mem_iff.1 ht)
  have hnd1 := hp1.nodup_iff.2 hnd
  refine wr_rows (R1 := (⟨3, 1, (some ⟨g_3, 0, none⟩), 1, 1, [.int .i64 h], false⟩ :: ⟨74, 1, (some ⟨g_1, 0, none⟩), 1, 1, [.pointer (some ⟨g_s, 0, none⟩)], false⟩ :: ⟨76, 4, (some ⟨g_s, 0, none⟩), 1, 1, [.slice A_w ws.length c_w, .slice A_t n_t c_t, .slice A_b bs.length c_b, .slice A_r rs.length c_r], false⟩ :: ⟨51, 2, A_o, ts.length, c_o, prs l1, false⟩ :: ⟨3, 1, A_b, bs.length, c_b, ints .i64 bs, false⟩ :: ⟨3, 1, A_r, rs.length, c_r, ints .i64 rs, false⟩ :: R)) rfl ?_
  refine wr_nil ?_
  refine w_seq ?_
  refine w_reg ?_
  refine wr_y rfl (y_ldIn (rdR 1 (r := ⟨74, 1, (some ⟨g_1, 0, none⟩), 1, 1, [.pointer (some ⟨g_s, 0, none⟩)], false⟩) rfl) Try.underlying74 rfl rfl rfl) ?_
  refine wr_y rfl (y_nilCheck rfl) ?_
  refine wr_y rfl (y_fieldAt (off := 3) (m := 3) Try.underlying76 rfl sz35 rfl rfl rfl) ?_
  refine wr_y rfl (y_ldIn (rdR 2 (r := ⟨76, 4, (some ⟨g_s, 0, none⟩), 1, 1, [.slice A_w ws.length c_w, .slice A_t n_t c_t, .slice A_b bs.length c_b, .slice A_r rs.length c_r], false⟩) rfl) Try.underlying35 rfl rfl rfl) ?_
  refine wr_y rfl (y_len Try.underlying35 rfl) ?_
  refine wr_a rfl (a_makeN Try.underlying35 zb3 rfl rfl (by omega) (by omega) (by omega)) ?_
  rintro _ _ ⟨g_5, rfl, rfl⟩
  refine wr_rows (R1 := (⟨3, 1, (some ⟨g_5, 0, none⟩), rs.length, rs.length, ints .i64 (List.replicate rs.length (0 : Int)), false⟩ :: ⟨3, 1, (some ⟨g_3, 0, none⟩), 1, 1, [.int .i64 h], false⟩ :: ⟨74, 1, (some ⟨g_1, 0, none⟩), 1, 1, [.pointer (some ⟨g_s, 0, none⟩)], false⟩ :: ⟨76, 4, (some ⟨g_s, 0, none⟩), 1, 1, [.slice A_w ws.length c_w, .slice A_t n_t c_t, .slice A_b bs.length c_b, .slice A_r rs.length c_r], false⟩ :: ⟨51, 2, A_o, ts.length, c_o, prs l1, false⟩ :: ⟨3, 1, A_b, bs.length, c_b, ints .i64 bs, false⟩ :: ⟨3, 1, A_r, rs.length, c_r, ints .i64 rs, false⟩ :: R)) rfl ?_
  refine wr_as (v := .slice (some ⟨g_5, 0, none⟩) rs.length rs.length) rfl ?_
  refine wr_y rfl (y_assign rfl) ?_
  refine wr_nil ?_
  refine w_seq ?_
  refine w_reg ?_
  refine wr_y rfl (y_assign rfl) ?_
  refine wr_nil ?_
  refine w_seq ?_
  refine w_seq ?_
  refine w_reg ?_
  refine wr_y rfl (y_move rfl) ?_
  refine wr_y rfl (y_len Try.underlying49 rfl) ?_
  refine wr_y rfl (y_move rfl) ?_
  refine wr_nil ?_
  refine w_block ?_
  refine w_loop3 (fun (i : Int) (n : Int) (rk : List Int) => [(1, .slice A_o ts.length c_o), (3, .pointer (some ⟨g_1, 0, none⟩)), (5, .pointer (some ⟨g_3, 0, none⟩)), (7, .slice (some ⟨g_5, 0, none⟩) rs.length rs.length), (8, .int .i64 n), (21, .slice A_o ts.length c_o), (22, .int .i64 ((ts.length : Nat) : Int)), (23, .int .i64 i)]) (fun (i : Int) (n : Int) (rk : List Int) => (⟨3, 1, (some ⟨g_5, 0, none⟩), rs.length, rs.length, ints .i64 rk, false⟩ :: ⟨3, 1, (some ⟨g_3, 0, none⟩), 1, 1, [.int .i64 h], false⟩ :: ⟨74, 1, (some ⟨g_1, 0, none⟩), 1, 1, [.pointer (some ⟨g_s, 0, none⟩)], false⟩ :: ⟨76, 4, (some ⟨g_s, 0, none⟩), 1, 1, [.slice A_w ws.length c_w, .slice A_t n_t c_t, .slice A_b bs.length c_b, .slice A_r rs.length c_r], false⟩ :: ⟨51, 2, A_o, ts.length, c_o, prs l1, false⟩ :: ⟨3, 1, A_b, bs.length, c_b, ints .i64 bs, false⟩ :: ⟨3, 1, A_r, rs.length, c_r, ints .i64 rs, false⟩ :: R)) (fun (i : Int) (n : Int) (rk : List Int) => (0 ≤ i) ∧ (i ≤ l1.length) ∧ (0 ≤ n ∧ n ≤ i) ∧ (n = clsF ws bs rs h l1 (i - 1).toNat) ∧ (rk.length = rs.length) ∧ (∀ j : Nat, j < i → rd rk (posT bs (rdp l1 j)) = clsF ws bs rs h l1 j)) (fun (i : Int) (n : Int) (rk : List Int) => (l1.length - i).toNat) ?_ ?_
  ·
    exact ⟨0, 0, List.replicate rs.length (0 : Int), ⟨(by omega), (by omega), (by omega), (rfl), (by rw [List.length_replicate]), (fun j hj => by omega)⟩, (Sub.cons rfl (Sub.cons rfl (Sub.cons rfl (Sub.cons rfl (Sub.cons rfl (Sub.cons rfl (Sub.cons rfl (Sub.cons rfl Sub.nil)))))))), fun _ h => h⟩
  intro i n rk ⟨hi0, hi1, hn0, hn, hkl, hrk⟩
  refine w_seq ?_
  refine w_reg ?_
  refine wr_y rfl (y_lt rfl rfl) ?_
  refine wr_nil ?_
  refine w_seq ?_
  refine w_if rfl (fun hc1 => ?_) (fun hc1 => ?_)
  ·
    have hq := hv1 _ (rdp_mem hi0 (show i < l1.length by omega))
    obtain ⟨⟨q1, q2, q3⟩, ⟨q4, q5, q6⟩, q7, q8, q9⟩ := hq
    have hps : ∀ t ∈ l1, 0 ≤ posT bs t := fun t ht => hinj1 t (hp1.mem_iff.1 ht)
    have hij : ∀ t ∈ l1, ∀ u ∈ l1, posT bs t = posT bs u → t = u := fun t ht u hu => hinj t (hp1.mem_iff.1 ht) u (hp1.mem_iff.1 hu)
    refine w_skip ?_
    refine w_seq ?_
    refine w_block ?_
    refine w_seq ?_
    refine w_reg ?_
    refine wr_y rfl (y_move rfl) ?_
    refine wr_y rfl (y_index Try.underlying49 sz51 rfl rfl (rdr 4 rfl) rfl (by omega) (by omega)) ?_
    refine wr_y rfl (y_ldP Try.underlying51 rfl sz51 rfl (rdr 4 rfl) (by omega) (by omega)) ?_
    refine wr_a rfl (a_alloc (sz := 2) zz51 rfl) ?_
    rintro _ _ ⟨g_7, rfl, rfl⟩
    refine wr_rows (R1 := (⟨51, 2, (some ⟨g_7, 0, none⟩), 1, 1, [.int .i64 0, .int .i64 0], false⟩ :: ⟨3, 1, (some ⟨g_5, 0, none⟩), rs.length, rs.length, ints .i64 rk, false⟩ :: ⟨3, 1, (some ⟨g_3, 0, none⟩), 1, 1, [.int .i64 h], false⟩ :: ⟨74, 1, (some ⟨g_1, 0, none⟩), 1, 1, [.pointer (some ⟨g_s, 0, none⟩)], false⟩ :: ⟨76, 4, (some ⟨g_s, 0, none⟩), 1, 1, [.slice A_w ws.length c_w, .slice A_t n_t c_t, .slice A_b bs.length c_b, .slice A_r rs.length c_r], false⟩ :: ⟨51, 2, A_o, ts.length, c_o, prs l1, false⟩ :: ⟨3, 1, A_b, bs.length, c_b, ints .i64 bs, false⟩ :: ⟨3, 1, A_r, rs.length, c_r, ints .i64 rs, false⟩ :: R)) rfl ?_
    refine wr_y rfl (y_assign rfl) ?_
    refine wr_n (a_storeAll (vs := [.int .i64 ((rdp l1 i).1), .int .i64 ((rdp l1 i).2)]) 0 rfl sz51 rfl rfl rfl (by intro v hv; simp at hv; rcases hv with rfl | rfl <;> rfl) rfl) ?_
    rintro _ _ rfl
    refine wr_rows (R1 := (⟨51, 2, (some ⟨g_7, 0, none⟩), 1, 1, [.int .i64 ((rdp l1 i).1), .int .i64 ((rdp l1 i).2)], false⟩ :: ⟨3, 1, (some ⟨g_5, 0, none⟩), rs.length, rs.length, ints .i64 rk, false⟩ :: ⟨3, 1, (some ⟨g_3, 0, none⟩), 1, 1, [.int .i64 h], false⟩ :: ⟨74, 1, (some ⟨g_1, 0, none⟩), 1, 1, [.pointer (some ⟨g_s, 0, none⟩)], false⟩ :: ⟨76, 4, (some ⟨g_s, 0, none⟩), 1, 1, [.slice A_w ws.length c_w, .slice A_t n_t c_t, .slice A_b bs.length c_b, .slice A_r rs.length c_r], false⟩ :: ⟨51, 2, A_o, ts.length, c_o, prs l1, false⟩ :: ⟨3, 1, A_b, bs.length, c_b, ints .i64 bs, false⟩ :: ⟨3, 1, A_r, rs.length, c_r, ints .i64 rs, false⟩ :: R)) rfl ?_
    refine wr_nil ?_
    refine w_seq ?_
    refine w_seq ?_
    refine w_reg ?_
    refine wr_y rfl (y_move rfl) ?_
    refine wr_y rfl (y_gt rfl rfl) ?_
    refine wr_nil ?_
    refine w_if rfl (fun hc2 => ?_) (fun hc2 => ?_)
    ·
      have hq' := hv1 _ (rdp_mem (show 0 ≤ i - 1 by omega) (show i - 1 < l1.length by omega))
      obtain ⟨⟨p1, p2, p3⟩, ⟨p4, p5, p6⟩, p7, p8, p9⟩ := hq'
      refine w_seq ?_
      refine w_reg ?_
      refine wr_y rfl (y_move rfl) ?_
      refine wr_y rfl (y_move rfl) ?_
      refine wr_y rfl (y_subI rfl rfl (by omega)) ?_
      refine wr_y rfl (y_index Try.underlying49 sz51 rfl rfl (rdr 5 rfl) rfl (by omega) (by omega)) ?_
      refine wr_y rfl (y_ldP Try.underlying51 rfl sz51 rfl (rdr 5 rfl) (by omega) (by omega)) ?_
      refine wr_a rfl (a_alloc (sz := 2) zz51 rfl) ?_
      rintro _ _ ⟨g_9, rfl, rfl⟩
      refine wr_rows (R1 := (⟨51, 2, (some ⟨g_9, 0, none⟩), 1, 1, [.int .i64 0, .int .i64 0], false⟩ :: ⟨51, 2, (some ⟨g_7, 0, none⟩), 1, 1, [.int .i64 ((rdp l1 i).1), .int .i64 ((rdp l1 i).2)], false⟩ :: ⟨3, 1, (some ⟨g_5, 0, none⟩), rs.length, rs.length, ints .i64 rk, false⟩ :: ⟨3, 1, (some ⟨g_3, 0, none⟩), 1, 1, [.int .i64 h], false⟩ :: ⟨74, 1, (some ⟨g_1, 0, none⟩), 1, 1, [.pointer (some ⟨g_s, 0, none⟩)], false⟩ :: ⟨76, 4, (some ⟨g_s, 0, none⟩), 1, 1, [.slice A_w ws.length c_w, .slice A_t n_t c_t, .slice A_b bs.length c_b, .slice A_r rs.length c_r], false⟩ :: ⟨51, 2, A_o, ts.length, c_o, prs l1, false⟩ :: ⟨3, 1, A_b, bs.length, c_b, ints .i64 bs, false⟩ :: ⟨3, 1, A_r, rs.length, c_r, ints .i64 rs, false⟩ :: R)) rfl ?_
      refine wr_n (a_storeAll (vs := [.int .i64 ((rdp l1 (i - 1)).1), .int .i64 ((rdp l1 (i - 1)).2)]) 0 rfl sz51 rfl rfl rfl (by intro v hv; simp at hv; rcases hv with rfl | rfl <;> rfl) rfl) ?_
      rintro _ _ rfl
      refine wr_rows (R1 := (⟨51, 2, (some ⟨g_9, 0, none⟩), 1, 1, [.int .i64 ((rdp l1 (i - 1)).1), .int .i64 ((rdp l1 (i - 1)).2)], false⟩ :: ⟨51, 2, (some ⟨g_7, 0, none⟩), 1, 1, [.int .i64 ((rdp l1 i).1), .int .i64 ((rdp l1 i).2)], false⟩ :: ⟨3, 1, (some ⟨g_5, 0, none⟩), rs.length, rs.length, ints .i64 rk, false⟩ :: ⟨3, 1, (some ⟨g_3, 0, none⟩), 1, 1, [.int .i64 h], false⟩ :: ⟨74, 1, (some ⟨g_1, 0, none⟩), 1, 1, [.pointer (some ⟨g_s, 0, none⟩)], false⟩ :: ⟨76, 4, (some ⟨g_s, 0, none⟩), 1, 1, [.slice A_w ws.length c_w, .slice A_t n_t c_t, .slice A_b bs.length c_b, .slice A_r rs.length c_r], false⟩ :: ⟨51, 2, A_o, ts.length, c_o, prs l1, false⟩ :: ⟨3, 1, A_b, bs.length, c_b, ints .i64 bs, false⟩ :: ⟨3, 1, A_r, rs.length, c_r, ints .i64 rs, false⟩ :: R)) rfl ?_
      refine wr_nil ?_
      refine w_join0 [(1, .slice A_o ts.length c_o), (3, .pointer (some ⟨g_1, 0, none⟩)), (5, .pointer (some ⟨g_3, 0, none⟩)), (7, .slice (some ⟨g_5, 0, none⟩) rs.length rs.length), (8, .int .i64 n), (10, .pointer (some ⟨g_7, 0, none⟩)), (21, .slice A_o ts.length c_o), (22, .int .i64 ((ts.length : Nat) : Int)), (23, .int .i64 i), (52, .bool (decide (((ahd ws bs rs (((rdp l1 (i - 1)).1), ((rdp l1 (i - 1)).2)) 0) ≠ (ahd ws bs rs (((rdp l1 i).1), ((rdp l1 i).2)) 0)) ∨ ((ahd ws bs rs (((rdp l1 (i - 1)).1), ((rdp l1 (i - 1)).2)) h) ≠ (ahd ws bs rs (((rdp l1 i).1), ((rdp l1 i).2)) h)))))] (⟨51, 2, (some ⟨g_9, 0, none⟩), 1, 1, [.int .i64 ((rdp l1 (i - 1)).1), .int .i64 ((rdp l1 (i - 1)).2)], false⟩ :: ⟨51, 2, (some ⟨g_7, 0, none⟩), 1, 1, [.int .i64 ((rdp l1 i).1), .int .i64 ((rdp l1 i).2)], false⟩ :: ⟨3, 1, (some ⟨g_5, 0, none⟩), rs.length, rs.length, ints .i64 rk, false⟩ :: ⟨3, 1, (some ⟨g_3, 0, none⟩), 1, 1, [.int .i64 h], false⟩ :: ⟨74, 1, (some ⟨g_1, 0, none⟩), 1, 1, [.pointer (some ⟨g_s, 0, none⟩)], false⟩ :: ⟨76, 4, (some ⟨g_s, 0, none⟩), 1, 1, [.slice A_w ws.length c_w, .slice A_t n_t c_t, .slice A_b bs.length c_b, .slice A_r rs.length c_r], false⟩ :: ⟨51, 2, A_o, ts.length, c_o, prs l1, false⟩ :: ⟨3, 1, A_b, bs.length, c_b, ints .i64 bs, false⟩ :: ⟨3, 1, A_r, rs.length, c_r, ints .i64 rs, false⟩ :: R) ?_ ?_
      ·
        refine w_regd mixed ?_
        refine wd_y 0 rfl (by kernel_rfl) rfl (y_ldIn (rdR 4 (r := ⟨74, 1, (some ⟨g_1, 0, none⟩), 1, 1, [.pointer (some ⟨g_s, 0, none⟩)], false⟩) rfl) Try.underlying74 rfl rfl rfl) ?_
        refine wd_y 1 rfl (by kernel_rfl) rfl (y_ldInA (vs := [.int .i64 ((rdp l1 (i - 1)).1), .int .i64 ((rdp l1 (i - 1)).2)]) (rdR 0 (r := ⟨51, 2, (some ⟨g_9, 0, none⟩), 1, 1, [.int .i64 ((rdp l1 (i - 1)).1), .int .i64 ((rdp l1 (i - 1)).2)], false⟩) rfl) Try.underlying51 rfl sz51 rfl rfl (Nat.le_of_ble_eq_true rfl) rfl) ?_
        refine wd_y 3 rfl (by kernel_rfl) rfl (y_ldIn (rdR 4 (r := ⟨74, 1, (some ⟨g_1, 0, none⟩), 1, 1, [.pointer (some ⟨g_s, 0, none⟩)], false⟩) rfl) Try.underlying74 rfl rfl rfl) ?_
        refine wd_y 4 rfl (by kernel_rfl) rfl (y_ldInA (vs := [.int .i64 ((rdp l1 i).1), .int .i64 ((rdp l1 i).2)]) (rdR 1 (r := ⟨51, 2, (some ⟨g_7, 0, none⟩), 1, 1, [.int .i64 ((rdp l1 i).1), .int .i64 ((rdp l1 i).2)], false⟩) rfl) Try.underlying51 rfl sz51 rfl rfl (Nat.le_of_ble_eq_true rfl) rfl) ?_
        refine wd_a 2 rfl (by kernel_rfl) rfl (a_callF en82 rfl (Ct.quiet (fun w hw => own_ct ((rdR 5 (r := ⟨76, 4, (some ⟨g_s, 0, none⟩), 1, 1, [.slice A_w ws.length c_w, .slice A_t n_t c_t, .slice A_b bs.length c_b, .slice A_r rs.length c_r], false⟩) rfl) w hw) ((RdC.right hrw [_, _, _, _, _, _, _, _, _]) w hw) (hsw w (Hp.right (R' := [_, _, _, _, _, _, _, _, _]) hw)) ((rdr 7 rfl) w hw) ((rdr 8 rfl) w hw) (by first | assumption | omega | decide) (by first | assumption | omega | decide) (by first | assumption | omega | decide) (by first | assumption | omega | decide)))) ?_
        rintro _ _ ⟨rfl, rfl⟩
        refine ⟨.inr fun _ h => h, ?_⟩
        refine wd_a 5 rfl (by kernel_rfl) rfl (a_callF en82 rfl (Ct.quiet (fun w hw => own_ct ((rdR 5 (r := ⟨76, 4, (some ⟨g_s, 0, none⟩), 1, 1, [.slice A_w ws.length c_w, .slice A_t n_t c_t, .slice A_b bs.length c_b, .slice A_r rs.length c_r], false⟩) rfl) w hw) ((RdC.right hrw [_, _, _, _, _, _, _, _, _]) w hw) (hsw w (Hp.right (R' := [_, _, _, _, _, _, _, _, _]) hw)) ((rdr 7 rfl) w hw) ((rdr 8 rfl) w hw) (by first | assumption | omega | decide) (by first | assumption | omega | decide) (by first | assumption | omega | decide) (by first | assumption | omega | decide)))) ?_
        rintro _ _ ⟨rfl, rfl⟩
        refine ⟨.inr fun _ h => h, ?_⟩
        refine wd_y 6 rfl (by kernel_rfl) rfl (y_ne rfl rfl) ?_
        refine wd_y 7 rfl (by kernel_rfl) rfl (y_move rfl) ?_
        refine wd_case 42 rfl (fun hc3 => ?_) (fun hc3 => ?_)
        ·
          refine wd_no 8 rfl (by kernel_rfl) rfl rfl rfl rfl ?_
          refine wd_no 9 rfl (by kernel_rfl) rfl rfl rfl rfl ?_
          refine wd_no 10 rfl (by kernel_rfl) rfl rfl rfl rfl ?_
          refine wd_no 11 rfl (by kernel_rfl) rfl rfl rfl rfl ?_
          refine wd_no 12 rfl (by kernel_rfl) rfl rfl rfl rfl ?_
          refine wd_no 13 rfl (by kernel_rfl) rfl rfl rfl rfl ?_
          refine wd_no 14 rfl (by kernel_rfl) rfl rfl rfl rfl ?_
          refine wd_no 15 rfl (by kernel_rfl) rfl rfl rfl rfl ?_
          refine wd_no 16 rfl (by kernel_rfl) rfl rfl rfl rfl ?_
          refine wd_y 17 rfl (by kernel_rfl) rfl (y_pickT rfl rfl) ?_
          refine wd_nil (by kernel_rfl) ?_
          exact ⟨(Sub.cons rfl (Sub.cons rfl (Sub.cons rfl (Sub.cons rfl (Sub.cons rfl (Sub.cons rfl (Sub.cons rfl (Sub.cons rfl (Sub.cons rfl (Sub.to rfl (mb_t (by first | omega | exact ⟨fun h => ⟨(by assumption), h⟩, fun h => h.2⟩ | simp [*])) Sub.nil)))))))))), fun _ h => h⟩
        ·
          refine wd_yg 8 rfl (by kernel_rfl) rfl rfl rfl (y_ldIn (rdR 4 (r := ⟨74, 1, (some ⟨g_1, 0, none⟩), 1, 1, [.pointer (some ⟨g_s, 0, none⟩)], false⟩) rfl) Try.underlying74 rfl rfl rfl) ?_
          refine wd_yg 9 rfl (by kernel_rfl) rfl rfl rfl (y_ldInA (vs := [.int .i64 ((rdp l1 (i - 1)).1), .int .i64 ((rdp l1 (i - 1)).2)]) (rdR 0 (r := ⟨51, 2, (some ⟨g_9, 0, none⟩), 1, 1, [.int .i64 ((rdp l1 (i - 1)).1), .int .i64 ((rdp l1 (i - 1)).2)], false⟩) rfl) Try.underlying51 rfl sz51 rfl rfl (Nat.le_of_ble_eq_true rfl) rfl) ?_
          refine wd_yg 10 rfl (by kernel_rfl) rfl rfl rfl (y_ldIn (rdR 3 (r := ⟨3, 1, (some ⟨g_3, 0, none⟩), 1, 1, [.int .i64 h], false⟩) rfl) Try.underlying3 rfl rfl rfl) ?_
          refine wd_yg 12 rfl (by kernel_rfl) rfl rfl rfl (y_ldIn (rdR 4 (r := ⟨74, 1, (some ⟨g_1, 0, none⟩), 1, 1, [.pointer (some ⟨g_s, 0, none⟩)], false⟩) rfl) Try.underlying74 rfl rfl rfl) ?_
          refine wd_yg 13 rfl (by kernel_rfl) rfl rfl rfl (y_ldInA (vs := [.int .i64 ((rdp l1 i).1), .int .i64 ((rdp l1 i).2)]) (rdR 1 (r := ⟨51, 2, (some ⟨g_7, 0, none⟩), 1, 1, [.int .i64 ((rdp l1 i).1), .int .i64 ((rdp l1 i).2)], false⟩) rfl) Try.underlying51 rfl sz51 rfl rfl (Nat.le_of_ble_eq_true rfl) rfl) ?_
          refine wd_yg 14 rfl (by kernel_rfl) rfl rfl rfl (y_ldIn (rdR 3 (r := ⟨3, 1, (some ⟨g_3, 0, none⟩), 1, 1, [.int .i64 h], false⟩) rfl) Try.underlying3 rfl rfl rfl) ?_
          refine wd_ag 11 rfl (by kernel_rfl) rfl rfl rfl (a_callF en83 rfl (Ct.quiet (fun w hw => ahead_ct ((rdR 5 (r := ⟨76, 4, (some ⟨g_s, 0, none⟩), 1, 1, [.slice A_w ws.length c_w, .slice A_t n_t c_t, .slice A_b bs.length c_b, .slice A_r rs.length c_r], false⟩) rfl) w hw) ((RdC.right hrw [_, _, _, _, _, _, _, _, _]) w hw) (hsw w (Hp.right (R' := [_, _, _, _, _, _, _, _, _]) hw)) ((rdr 7 rfl) w hw) ((rdr 8 rfl) w hw) (by first | assumption | omega | decide) (by first | assumption | omega | decide) (by first | assumption | omega | decide) (by first | assumption | omega | decide) (by first | assumption | omega | decide)))) ?_
          rintro _ _ ⟨rfl, rfl⟩
          refine ⟨.inr fun _ h => h, ?_⟩
          refine wd_ag 15 rfl (by kernel_rfl) rfl rfl rfl (a_callF en83 rfl (Ct.quiet (fun w hw => ahead_ct ((rdR 5 (r := ⟨76, 4, (some ⟨g_s, 0, none⟩), 1, 1, [.slice A_w ws.length c_w, .slice A_t n_t c_t, .slice A_b bs.length c_b, .slice A_r rs.length c_r], false⟩) rfl) w hw) ((RdC.right hrw [_, _, _, _, _, _, _, _, _]) w hw) (hsw w (Hp.right (R' := [_, _, _, _, _, _, _, _, _]) hw)) ((rdr 7 rfl) w hw) ((rdr 8 rfl) w hw) (by first | assumption | omega | decide) (by first | assumption | omega | decide) (by first | assumption | omega | decide) (by first | assumption | omega | decide) (by first | assumption | omega | decide)))) ?_
          rintro _ _ ⟨rfl, rfl⟩
          refine ⟨.inr fun _ h => h, ?_⟩
          refine wd_yg 16 rfl (by kernel_rfl) rfl rfl rfl (y_ne rfl rfl) ?_
          refine wd_y 17 rfl (by kernel_rfl) rfl (y_pickF rfl rfl) ?_
          refine wd_nil (by kernel_rfl) ?_
          exact ⟨(Sub.cons rfl (Sub.cons rfl (Sub.cons rfl (Sub.cons rfl (Sub.cons rfl (Sub.cons rfl (Sub.cons rfl (Sub.cons rfl (Sub.cons rfl (Sub.to rfl (mb (by first | omega | exact ⟨fun h => ⟨(by assumption), h⟩, fun h => h.2⟩ | simp [*])) Sub.nil)))))))))), fun _ h => h⟩
      refine w_if rfl (fun hc4 => ?_) (fun hc4 => ?_)
      ·
        refine w_reg ?_
        refine wr_y rfl (y_move rfl) ?_
        refine wr_y rfl (y_addI rfl rfl (by omega)) ?_
        refine wr_y rfl (y_assign rfl) ?_
        refine wr_nil ?_
        refine w_regd mixed ?_
        refine wd_y 0 rfl (by kernel_rfl) rfl (y_move rfl) ?_
        refine wd_y 1 rfl (by kernel_rfl) rfl (y_ldIn (rdR 4 (r := ⟨74, 1, (some ⟨g_1, 0, none⟩), 1, 1, [.pointer (some ⟨g_s, 0, none⟩)], false⟩) rfl) Try.underlying74 rfl rfl rfl) ?_
        refine wd_y 2 rfl (by kernel_rfl) rfl (y_nilCheck rfl) ?_
        refine wd_y 3 rfl (by kernel_rfl) rfl (y_fieldAt (off := 2) (m := 2) Try.underlying76 rfl sz35 rfl rfl rfl) ?_
        refine wd_y 4 rfl (by kernel_rfl) rfl (y_ldIn (rdR 5 (r := ⟨76, 4, (some ⟨g_s, 0, none⟩), 1, 1, [.slice A_w ws.length c_w, .slice A_t n_t c_t, .slice A_b bs.length c_b, .slice A_r rs.length c_r], false⟩) rfl) Try.underlying35 rfl rfl rfl) ?_
        refine wd_y 5 rfl (by kernel_rfl) rfl (y_indexIn (q := 0) (rdR 1 (r := ⟨51, 2, (some ⟨g_7, 0, none⟩), 1, 1, [.int .i64 ((rdp l1 i).1), .int .i64 ((rdp l1 i).2)], false⟩) rfl) Try.underlying51 sz3 rfl rfl (Nat.le_of_ble_eq_true rfl) (by decide) (by decide) rfl) ?_
        refine wd_y 6 rfl (by kernel_rfl) rfl (y_ldIn (rdR 1 (r := ⟨51, 2, (some ⟨g_7, 0, none⟩), 1, 1, [.int .i64 ((rdp l1 i).1), .int .i64 ((rdp l1 i).2)], false⟩) rfl) Try.underlying3 rfl rfl rfl) ?_
        refine wd_y 7 rfl (by kernel_rfl) rfl (y_index1 Try.underlying35 sz3 rfl rfl (rdr 7 rfl) (by omega) (by omega)) ?_
        refine wd_y 8 rfl (by kernel_rfl) rfl (y_ldI Try.underlying3 rfl rfl (rdr 7 rfl) (by omega) (by omega)) ?_
        refine wd_y 9 rfl (by kernel_rfl) rfl (y_indexIn (q := 1) (rdR 1 (r := ⟨51, 2, (some ⟨g_7, 0, none⟩), 1, 1, [.int .i64 ((rdp l1 i).1), .int .i64 ((rdp l1 i).2)], false⟩) rfl) Try.underlying51 sz3 rfl rfl (Nat.le_of_ble_eq_true rfl) (by decide) (by decide) rfl) ?_
        refine wd_y 10 rfl (by kernel_rfl) rfl (y_ldIn (rdR 1 (r := ⟨51, 2, (some ⟨g_7, 0, none⟩), 1, 1, [.int .i64 ((rdp l1 i).1), .int .i64 ((rdp l1 i).2)], false⟩) rfl) Try.underlying3 rfl rfl rfl) ?_
        refine wd_y 11 rfl (by kernel_rfl) rfl (y_addI rfl rfl (by omega)) ?_
        refine wd_y 12 rfl (by kernel_rfl) rfl (y_move rfl) ?_
        refine wd_y 13 rfl (by kernel_rfl) rfl (y_index1 Try.underlying35 sz3 rfl rfl (rdr 2 rfl) (by omega) (by omega)) ?_
        refine wd_n 14 rfl (by kernel_rfl) (a_storeI 2 rfl sz3 rfl rfl (by omega) (by omega)) ?_
        rintro _ _ rfl
        refine ⟨.inl (by kernel_rfl), ?_⟩
        refine wd_rows (R1 := (⟨51, 2, (some ⟨g_9, 0, none⟩), 1, 1, [.int .i64 ((rdp l1 (i - 1)).1), .int .i64 ((rdp l1 (i - 1)).2)], false⟩ :: ⟨51, 2, (some ⟨g_7, 0, none⟩), 1, 1, [.int .i64 ((rdp l1 i).1), .int .i64 ((rdp l1 i).2)], false⟩ :: ⟨3, 1, (some ⟨g_5, 0, none⟩), rs.length, rs.length, ints .i64 (upd rk ((rd bs ((rdp l1 i).1)) + ((rdp l1 i).2)) (n + 1)), false⟩ :: ⟨3, 1, (some ⟨g_3, 0, none⟩), 1, 1, [.int .i64 h], false⟩ :: ⟨74, 1, (some ⟨g_1, 0, none⟩), 1, 1, [.pointer (some ⟨g_s, 0, none⟩)], false⟩ :: ⟨76, 4, (some ⟨g_s, 0, none⟩), 1, 1, [.slice A_w ws.length c_w, .slice A_t n_t c_t, .slice A_b bs.length c_b, .slice A_r rs.length c_r], false⟩ :: ⟨51, 2, A_o, ts.length, c_o, prs l1, false⟩ :: ⟨3, 1, A_b, bs.length, c_b, ints .i64 bs, false⟩ :: ⟨3, 1, A_r, rs.length, c_r, ints .i64 rs, false⟩ :: R)) rfl ?_
        refine wd_nil (by kernel_rfl) ?_
        refine w_reg ?_
        refine wr_y rfl (y_addI rfl rfl (by omega)) ?_
        refine wr_y rfl (y_move rfl) ?_
        refine wr_nil ?_
        exact ⟨i + 1, n + 1, upd rk ((rd bs ((rdp l1 i).1)) + ((rdp l1 i).2)) (n + 1), ⟨(by omega), (by omega), (by omega), (by rw [show i + 1 - 1 = i by omega, clsF_step (by omega), if_pos (by assumption), ← hn]), (by rw [upd, List.length_set]; exact hkl), (ranks_step hnd1 hij hi0 (by omega) hps (by unfold posT; omega) hrk (by have e : (i + 1 - 1) = i := (by omega); have hc := (by rw [show i + 1 - 1 = i by omega, clsF_step (by omega), if_pos (by assumption), ← hn] : _ = clsF ws bs rs h l1 (i + 1 - 1).toNat); rw [e] at hc; exact hc))⟩, (by omega), (Sub.cons rfl (Sub.cons rfl (Sub.cons rfl (Sub.cons rfl (Sub.cons rfl (Sub.cons rfl (Sub.cons rfl (Sub.cons rfl Sub.nil)))))))), fun _ h => h.selR (F := [_, _, _, _, _, _, _, _, _]) (F' := [_, _, _, _, _, _, _]) [2, 3, 4, 5, 6, 7, 8] (by decide) rfl⟩
      ·
        refine w_skip ?_
        refine w_regd mixed ?_
        refine wd_y 0 rfl (by kernel_rfl) rfl (y_move rfl) ?_
        refine wd_y 1 rfl (by kernel_rfl) rfl (y_ldIn (rdR 4 (r := ⟨74, 1, (some ⟨g_1, 0, none⟩), 1, 1, [.pointer (some ⟨g_s, 0, none⟩)], false⟩) rfl) Try.underlying74 rfl rfl rfl) ?_
        refine wd_y 2 rfl (by kernel_rfl) rfl (y_nilCheck rfl) ?_
        refine wd_y 3 rfl (by kernel_rfl) rfl (y_fieldAt (off := 2) (m := 2) Try.underlying76 rfl sz35 rfl rfl rfl) ?_
        refine wd_y 4 rfl (by kernel_rfl) rfl (y_ldIn (rdR 5 (r := ⟨76, 4, (some ⟨g_s, 0, none⟩), 1, 1, [.slice A_w ws.length c_w, .slice A_t n_t c_t, .slice A_b bs.length c_b, .slice A_r rs.length c_r], false⟩) rfl) Try.underlying35 rfl rfl rfl) ?_
        refine wd_y 5 rfl (by kernel_rfl) rfl (y_indexIn (q := 0) (rdR 1 (r := ⟨51, 2, (some ⟨g_7, 0, none⟩), 1, 1, [.int .i64 ((rdp l1 i).1), .int .i64 ((rdp l1 i).2)], false⟩) rfl) Try.underlying51 sz3 rfl rfl (Nat.le_of_ble_eq_true rfl) (by decide) (by decide) rfl) ?_
        refine wd_y 6 rfl (by kernel_rfl) rfl (y_ldIn (rdR 1 (r := ⟨51, 2, (some ⟨g_7, 0, none⟩), 1, 1, [.int .i64 ((rdp l1 i).1), .int .i64 ((rdp l1 i).2)], false⟩) rfl) Try.underlying3 rfl rfl rfl) ?_
        refine wd_y 7 rfl (by kernel_rfl) rfl (y_index1 Try.underlying35 sz3 rfl rfl (rdr 7 rfl) (by omega) (by omega)) ?_
        refine wd_y 8 rfl (by kernel_rfl) rfl (y_ldI Try.underlying3 rfl rfl (rdr 7 rfl) (by omega) (by omega)) ?_
        refine wd_y 9 rfl (by kernel_rfl) rfl (y_indexIn (q := 1) (rdR 1 (r := ⟨51, 2, (some ⟨g_7, 0, none⟩), 1, 1, [.int .i64 ((rdp l1 i).1), .int .i64 ((rdp l1 i).2)], false⟩) rfl) Try.underlying51 sz3 rfl rfl (Nat.le_of_ble_eq_true rfl) (by decide) (by decide) rfl) ?_
        refine wd_y 10 rfl (by kernel_rfl) rfl (y_ldIn (rdR 1 (r := ⟨51, 2, (some ⟨g_7, 0, none⟩), 1, 1, [.int .i64 ((rdp l1 i).1), .int .i64 ((rdp l1 i).2)], false⟩) rfl) Try.underlying3 rfl rfl rfl) ?_
        refine wd_y 11 rfl (by kernel_rfl) rfl (y_addI rfl rfl (by omega)) ?_
        refine wd_y 12 rfl (by kernel_rfl) rfl (y_move rfl) ?_
        refine wd_y 13 rfl (by kernel_rfl) rfl (y_index1 Try.underlying35 sz3 rfl rfl (rdr 2 rfl) (by omega) (by omega)) ?_
        refine wd_n 14 rfl (by kernel_rfl) (a_storeI 2 rfl sz3 rfl rfl (by omega) (by omega)) ?_
        rintro _ _ rfl
        refine ⟨.inl (by kernel_rfl), ?_⟩
        refine wd_rows (R1 := (⟨51, 2, (some ⟨g_9, 0, none⟩), 1, 1, [.int .i64 ((rdp l1 (i - 1)).1), .int .i64 ((rdp l1 (i - 1)).2)], false⟩ :: ⟨51, 2, (some ⟨g_7, 0, none⟩), 1, 1, [.int .i64 ((rdp l1 i).1), .int .i64 ((rdp l1 i).2)], false⟩ :: ⟨3, 1, (some ⟨g_5, 0, none⟩), rs.length, rs.length, ints .i64 (upd rk ((rd bs ((rdp l1 i).1)) + ((rdp l1 i).2)) n), false⟩ :: ⟨3, 1, (some ⟨g_3, 0, none⟩), 1, 1, [.int .i64 h], false⟩ :: ⟨74, 1, (some ⟨g_1, 0, none⟩), 1, 1, [.pointer (some ⟨g_s, 0, none⟩)], false⟩ :: ⟨76, 4, (some ⟨g_s, 0, none⟩), 1, 1, [.slice A_w ws.length c_w, .slice A_t n_t c_t, .slice A_b bs.length c_b, .slice A_r rs.length c_r], false⟩ :: ⟨51, 2, A_o, ts.length, c_o, prs l1, false⟩ :: ⟨3, 1, A_b, bs.length, c_b, ints .i64 bs, false⟩ :: ⟨3, 1, A_r, rs.length, c_r, ints .i64 rs, false⟩ :: R)) rfl ?_
        refine wd_nil (by kernel_rfl) ?_
        refine w_reg ?_
        refine wr_y rfl (y_addI rfl rfl (by omega)) ?_
        refine wr_y rfl (y_move rfl) ?_
        refine wr_nil ?_
        exact ⟨i + 1, n, upd rk ((rd bs ((rdp l1 i).1)) + ((rdp l1 i).2)) n, ⟨(by omega), (by omega), (by omega), (by rw [show i + 1 - 1 = i by omega, clsF_step (by omega), if_neg (by assumption), ← hn, Int.add_zero]), (by rw [upd, List.length_set]; exact hkl), (ranks_step hnd1 hij hi0 (by omega) hps (by unfold posT; omega) hrk (by have e : (i + 1 - 1) = i := (by omega); have hc := (by rw [show i + 1 - 1 = i by omega, clsF_step (by omega), if_neg (by assumption), ← hn, Int.add_zero] : _ = clsF ws bs rs h l1 (i + 1 - 1).toNat); rw [e] at hc; exact hc))⟩, (by omega), (Sub.cons rfl (Sub.cons rfl (Sub.cons rfl (Sub.cons rfl (Sub.cons rfl (Sub.cons rfl (Sub.cons rfl (Sub.cons rfl Sub.nil)))))))), fun _ h => h.selR (F := [_, _, _, _, _, _, _, _, _]) (F' := [_, _, _, _, _, _, _]) [2, 3, 4, 5, 6, 7, 8] (by decide) rfl⟩
    ·
      refine w_skip ?_
      refine w_regd mixed ?_
      refine wd_y 0 rfl (by kernel_rfl) rfl (y_move rfl) ?_
      refine wd_y 1 rfl (by kernel_rfl) rfl (y_ldIn (rdR 3 (r := ⟨74, 1, (some ⟨g_1, 0, none⟩), 1, 1, [.pointer (some ⟨g_s, 0, none⟩)], false⟩) rfl) Try.underlying74 rfl rfl rfl) ?_
      refine wd_y 2 rfl (by kernel_rfl) rfl (y_nilCheck rfl) ?_
      refine wd_y 3 rfl (by kernel_rfl) rfl (y_fieldAt (off := 2) (m := 2) Try.underlying76 rfl sz35 rfl rfl rfl) ?_
      refine wd_y 4 rfl (by kernel_rfl) rfl (y_ldIn (rdR 4 (r := ⟨76, 4, (some ⟨g_s, 0, none⟩), 1, 1, [.slice A_w ws.length c_w, .slice A_t n_t c_t, .slice A_b bs.length c_b, .slice A_r rs.length c_r], false⟩) rfl) Try.underlying35 rfl rfl rfl) ?_
      refine wd_y 5 rfl (by kernel_rfl) rfl (y_indexIn (q := 0) (rdR 0 (r := ⟨51, 2, (some ⟨g_7, 0, none⟩), 1, 1, [.int .i64 ((rdp l1 i).1), .int .i64 ((rdp l1 i).2)], false⟩) rfl) Try.underlying51 sz3 rfl rfl (Nat.le_of_ble_eq_true rfl) (by decide) (by decide) rfl) ?_
      refine wd_y 6 rfl (by kernel_rfl) rfl (y_ldIn (rdR 0 (r := ⟨51, 2, (some ⟨g_7, 0, none⟩), 1, 1, [.int .i64 ((rdp l1 i).1), .int .i64 ((rdp l1 i).2)], false⟩) rfl) Try.underlying3 rfl rfl rfl) ?_
      refine wd_y 7 rfl (by kernel_rfl) rfl (y_index1 Try.underlying35 sz3 rfl rfl (rdr 6 rfl) (by omega) (by omega)) ?_
      refine wd_y 8 rfl (by kernel_rfl) rfl (y_ldI Try.underlying3 rfl rfl (rdr 6 rfl) (by omega) (by omega)) ?_
      refine wd_y 9 rfl (by kernel_rfl) rfl (y_indexIn (q := 1) (rdR 0 (r := ⟨51, 2, (some ⟨g_7, 0, none⟩), 1, 1, [.int .i64 ((rdp l1 i).1), .int .i64 ((rdp l1 i).2)], false⟩) rfl) Try.underlying51 sz3 rfl rfl (Nat.le_of_ble_eq_true rfl) (by decide) (by decide) rfl) ?_
      refine wd_y 10 rfl (by kernel_rfl) rfl (y_ldIn (rdR 0 (r := ⟨51, 2, (some ⟨g_7, 0, none⟩), 1, 1, [.int .i64 ((rdp l1 i).1), .int .i64 ((rdp l1 i).2)], false⟩) rfl) Try.underlying3 rfl rfl rfl) ?_
      refine wd_y 11 rfl (by kernel_rfl) rfl (y_addI rfl rfl (by omega)) ?_
      refine wd_y 12 rfl (by kernel_rfl) rfl (y_move rfl) ?_
      refine wd_y 13 rfl (by kernel_rfl) rfl (y_index1 Try.underlying35 sz3 rfl rfl (rdr 1 rfl) (by omega) (by omega)) ?_
      refine wd_n 14 rfl (by kernel_rfl) (a_storeI 1 rfl sz3 rfl rfl (by omega) (by omega)) ?_
      rintro _ _ rfl
      refine ⟨.inl (by kernel_rfl), ?_⟩
      refine wd_rows (R1 := (⟨51, 2, (some ⟨g_7, 0, none⟩), 1, 1, [.int .i64 ((rdp l1 i).1), .int .i64 ((rdp l1 i).2)], false⟩ :: ⟨3, 1, (some ⟨g_5, 0, none⟩), rs.length, rs.length, ints .i64 (upd rk ((rd bs ((rdp l1 i).1)) + ((rdp l1 i).2)) n), false⟩ :: ⟨3, 1, (some ⟨g_3, 0, none⟩), 1, 1, [.int .i64 h], false⟩ :: ⟨74, 1, (some ⟨g_1, 0, none⟩), 1, 1, [.pointer (some ⟨g_s, 0, none⟩)], false⟩ :: ⟨76, 4, (some ⟨g_s, 0, none⟩), 1, 1, [.slice A_w ws.length c_w, .slice A_t n_t c_t, .slice A_b bs.length c_b, .slice A_r rs.length c_r], false⟩ :: ⟨51, 2, A_o, ts.length, c_o, prs l1, false⟩ :: ⟨3, 1, A_b, bs.length, c_b, ints .i64 bs, false⟩ :: ⟨3, 1, A_r, rs.length, c_r, ints .i64 rs, false⟩ :: R)) rfl ?_
      refine wd_nil (by kernel_rfl) ?_
      refine w_reg ?_
      refine wr_y rfl (y_addI rfl rfl (by omega)) ?_
      refine wr_y rfl (y_move rfl) ?_
      refine wr_nil ?_
      exact ⟨i + 1, n, upd rk ((rd bs ((rdp l1 i).1)) + ((rdp l1 i).2)) n, ⟨(by omega), (by omega), (by omega), (by have h0 : i = 0 := (by omega); subst h0; exact hn), (by rw [upd, List.length_set]; exact hkl), (ranks_step hnd1 hij hi0 (by omega) hps (by unfold posT; omega) hrk (by have e : (i + 1 - 1) = i := (by omega); have hc := (by have h0 : i = 0 := (by omega); subst h0; exact hn : _ = clsF ws bs rs h l1 (i + 1 - 1).toNat); rw [e] at hc; exact hc))⟩, (by omega), (Sub.cons rfl (Sub.cons rfl (Sub.cons rfl (Sub.cons rfl (Sub.cons rfl (Sub.cons rfl (Sub.cons rfl (Sub.cons rfl Sub.nil)))))))), fun _ h => h.selR (F := [_, _, _, _, _, _, _, _]) (F' := [_, _, _, _, _, _, _]) [1, 2, 3, 4, 5, 6, 7] (by decide) rfl⟩
  ·
    refine w_exit ?_
    refine w_seq ?_
    refine w_reg ?_
    refine wr_y rfl (y_ldIn (rdR 2 (r := ⟨74, 1, (some ⟨g_1, 0, none⟩), 1, 1, [.pointer (some ⟨g_s, 0, none⟩)], false⟩) rfl) Try.underlying74 rfl rfl rfl) ?_
    refine wr_y rfl (y_move rfl) ?_
    refine wr_y rfl (y_nilCheck rfl) ?_
    refine wr_y rfl (y_fieldAt (off := 3) (m := 3) Try.underlying76 rfl sz35 rfl rfl rfl) ?_
    refine wr_n (a_storeAt 3 rfl rfl rfl sz35 rfl rfl rfl rfl (Nat.le_of_ble_eq_true rfl)) ?_
    rintro _ _ rfl
    refine wr_rows (R1 := (⟨3, 1, (some ⟨g_5, 0, none⟩), rs.length, rs.length, ints .i64 rk, false⟩ :: ⟨3, 1, (some ⟨g_3, 0, none⟩), 1, 1, [.int .i64 h], false⟩ :: ⟨74, 1, (some ⟨g_1, 0, none⟩), 1, 1, [.pointer (some ⟨g_s, 0, none⟩)], false⟩ :: ⟨76, 4, (some ⟨g_s, 0, none⟩), 1, 1, [.slice A_w ws.length c_w, .slice A_t n_t c_t, .slice A_b bs.length c_b, .slice (some ⟨g_5, 0, none⟩) rs.length rs.length], false⟩ :: ⟨51, 2, A_o, ts.length, c_o, prs l1, false⟩ :: ⟨3, 1, A_b, bs.length, c_b, ints .i64 bs, false⟩ :: ⟨3, 1, A_r, rs.length, c_r, ints .i64 rs, false⟩ :: R)) rfl ?_
    refine wr_nil ?_
    refine w_seq ?_
    refine w_reg ?_
    refine wr_y rfl (y_move rfl) ?_
    refine wr_y rfl (y_assign rfl) ?_
    refine wr_nil ?_
    refine w_retR (R1 := (⟨76, 4, (some ⟨g_s, 0, none⟩), 1, 1, [.slice A_w ws.length c_w, .slice A_t n_t c_t, .slice A_b bs.length c_b, .slice (some ⟨g_5, 0, none⟩) rs.length rs.length], false⟩ :: ⟨51, 2, A_o, ts.length, c_o, prs l1, false⟩ :: ⟨3, 1, A_b, bs.length, c_b, ints .i64 bs, false⟩ :: ⟨3, 1, (some ⟨g_5, 0, none⟩), rs.length, rs.length, ints .i64 rk, false⟩ :: R)) (fun _ h => h.selR (F := [_, _, _, _, _, _, _]) (F' := [_, _, _, _]) [3, 4, 5, 0] (by decide) rfl) ?_
    refine ⟨_, rfl, ?_⟩
    obtain rfl : i = l1.length := by omega
    refine ⟨l1, rk, _, _, ?_, hp1, hs1, hkl, fun j hj => hrk j (by omega), rfl⟩
    rw [hn, show ((l1.length : Int) - 1).toNat = l1.length - 1 by omega]

end Go.Proofs.Ytdfcnalkdlifiaa

/-! ## E22 -/
namespace Go.Eng
open Go Go.RowKit
section
variable {P : Program} {n : Nd} {B : Nat} {w0 : World} {L : Env} {R : List Row} {ty : TypeId}
/-- What is one number again and again, so far. -/
def repl (v : Int) (p N : Nat) : List Int := List.replicate p v ++ List.replicate (N - p) 0
end
end Go.Eng

/-! ## E28 -/
namespace Go.Eng
open Go Go.RowKit Go.Pure
section
variable {P : Program} {n : Nd} {B : Nat} {w0 : World} {L : Env} {R : List Row} {ty : TypeId}
structure RepI (u D : List Int) (N : Nat) (p : Int) : Prop where
  p0 : 0 ≤ p
  pN : p ≤ N
  up : (u.length : Int) ≤ p
  len : (D.length : Int) = p
  at_ : ∀ j : Nat, j < p → lt D j = om u j
  dvd : p = N ∨ (u.length : Int) ∣ p
theorem lt_take {D : List Int} {j q : Nat} (h : j < q) : lt (D.take q) j = lt D j := by
  unfold lt
  rw [List.getD_eq_getElem?_getD, List.getElem?_take_of_lt h, List.getD_eq_getElem?_getD]
end
end Go.Eng

/-! ## S3 -/
namespace Go.Proofs
open Go.Shelf
def Try.lays264_ren : Go.Shelf.Ren := ⟨fun | 264 => 94 | n => n, fun | 53 => 108 | 46 => 84 | n => n, fun | n => n⟩
def Try.lays212_ren : Go.Shelf.Ren := ⟨fun | 212 => 69 | 263 => 93 | 264 => 94 | n => n, fun | 46 => 84 | 51 => 105 | 146 => 106 | 53 => 108 | 148 => 109 | n => n, fun | n => n⟩
end Go.Proofs

/-! ## S4 -/
namespace Go.Proofs
open Go.Shelf
def Try.laysRing_ren : Go.Shelf.Ren := ⟨fun | 6 => 64 | 15 => 90 | 14 => 89 | 28 => 110 | 29 => 111 | 20 => 102 | 21 => 103 | 22 => 104 | 23 => 105 | 24 => 106 | 25 => 107 | 26 => 108 | 27 => 109 | 46 => 128 | 47 => 129 | 48 => 130 | 49 => 131 | 50 => 132 | 57 => 139 | n => n, fun | 22 => 54 | 24 => 57 | 25 => 83 | 3 => 3 | 39 => 84 | 0 => 0 | 53 => 105 | 55 => 108 | 4 => 4 | 46 => 117 | 45 => 116 | 50 => 121 | 5 => 5 | 9 => 9 | 66 => 135 | 70 => 139 | 76 => 145 | 77 => 146 | n => n, fun | n => n⟩
theorem Try.laysRing : Go.Proofs.SlLaysF0.n6 Try.prog Try.laysRing_ren := {
  mixed := by kernel_rfl
  f6 := ⟨Try.f64.name, by decide, Try.func64.trans (congrArg some (by kernel_rfl))⟩
  f14 := ⟨Try.f89.name, by decide, Try.func89.trans (congrArg some (by kernel_rfl))⟩
  f15 := Try.func90.trans (congrArg some (by kernel_rfl))
  f20 := ⟨Try.f102.name, by decide, Try.func102.trans (congrArg some (by kernel_rfl))⟩
  f21 := ⟨Try.f103.name, by decide, Try.func103.trans (congrArg some (by kernel_rfl))⟩
  f22 := ⟨Try.f104.name, by decide, Try.func104.trans (congrArg some (by kernel_rfl))⟩
  f23 := ⟨Try.f105.name, by decide, Try.func105.trans (congrArg some (by kernel_rfl))⟩
  f24 := ⟨Try.f106.name, by decide, Try.func106.trans (congrArg some (by kernel_rfl))⟩
  f25 := ⟨Try.f107.name, by decide, Try.func107.trans (congrArg some (by kernel_rfl))⟩
  f26 := ⟨Try.f108.name, by decide, Try.func108.trans (congrArg some (by kernel_rfl))⟩
  f27 := ⟨Try.f109.name, by decide, Try.func109.trans (congrArg some (by kernel_rfl))⟩
  f28 := Try.func110.trans (congrArg some (by kernel_rfl))
  f29 := Try.func111.trans (congrArg some (by kernel_rfl))
  f46 := ⟨Try.f128.name, by decide, Try.func128.trans (congrArg some (by kernel_rfl))⟩
  f47 := Try.func129.trans (congrArg some (by kernel_rfl))
  f48 := Try.func130.trans (congrArg some (by kernel_rfl))
  f49 := ⟨Try.f131.name, by decide, Try.func131.trans (congrArg some (by kernel_rfl))⟩
  f50 := ⟨Try.f132.name, by decide, Try.func132.trans (congrArg some (by kernel_rfl))⟩
  f57 := ⟨Try.f139.name, by decide, Try.func139.trans (congrArg some (by kernel_rfl))⟩
  t0 := Try.underlying0
  a0 := Try.isAgg0
  z0 := Try.sizeOf0
  v0 := Try.zeroValue0
  t3 := Try.underlying3
  a3 := Try.isAgg3
  z3 := Try.sizeOf3
  v3 := Try.zeroValue3
  t4 := Try.underlying4
  a4 := Try.isAgg4
  z4 := Try.sizeOf4
  v4 := Try.zeroValue4
  t5 := Try.underlying5
  a5 := Try.isAgg5
  z5 := Try.sizeOf5
  v5 := Try.zeroValue5
  t9 := Try.underlying9
  a9 := Try.isAgg9
  z9 := Try.sizeOf9
  v9 := Try.zeroValue9
  t22 := Try.underlying54
  a22 := Try.isAgg54
  z22 := Try.sizeOf54
  v22 := Try.zeroValue54
  t25 := Try.underlying83
  a25 := Try.isAgg83
  z25 := Try.sizeOf83
  v25 := Try.zeroValue83
  t39 := Try.underlying84
  a39 := Try.isAgg84
  z39 := Try.sizeOf84
  v39 := Try.zeroValue84
  t45 := Try.underlying116
  a45 := Try.isAgg116
  z45 := Try.sizeOf116
  v45 := Try.zeroValue116
  t46 := Try.underlying117
  a46 := Try.isAgg117
  z46 := Try.sizeOf117
  v46 := Try.zeroValue117
  t50 := Try.underlying121
  a50 := Try.isAgg121
  z50 := Try.sizeOf121
  v50 := Try.zeroValue121
  t53 := Try.underlying105
  a53 := Try.isAgg105
  z53 := Try.sizeOf105
  v53 := Try.zeroValue105
  t55 := Try.underlying108
  a55 := Try.isAgg108
  z55 := Try.sizeOf108
  v55 := Try.zeroValue108
  t66 := Try.underlying135
  a66 := Try.isAgg135
  z66 := Try.sizeOf135
  v66 := Try.zeroValue135
  t70 := Try.underlying139
  a70 := Try.isAgg139
  z70 := Try.sizeOf139
  v70 := Try.zeroValue139
  t76 := Try.underlying145
  a76 := Try.isAgg145
  z76 := Try.sizeOf145
  v76 := Try.zeroValue145
  t77 := Try.underlying146
  a77 := Try.isAgg146
  z77 := Try.sizeOf146
  v77 := Try.zeroValue146 }
def Try.laysRow_ren : Go.Shelf.Ren := ⟨fun | 6 => 79 | 15 => 90 | 14 => 98 | 28 => 110 | 29 => 111 | 20 => 112 | 21 => 113 | 22 => 114 | 23 => 115 | 24 => 116 | 25 => 117 | 26 => 118 | 27 => 119 | 46 => 133 | 47 => 129 | 48 => 130 | 49 => 134 | 50 => 135 | 57 => 140 | n => n, fun | 22 => 30 | 24 => 22 | 25 => 79 | 3 => 3 | 39 => 84 | 0 => 0 | 53 => 105 | 55 => 108 | 4 => 4 | 46 => 117 | 45 => 116 | 50 => 121 | 5 => 5 | 9 => 9 | 66 => 135 | 70 => 139 | 76 => 145 | 77 => 146 | n => n, fun | n => n⟩
end Go.Proofs

/-! ## N3 -/
namespace Go.Proofs.Ytdfcnalkdlifiaa
open Go Go.Eng Go.Pure
set_option linter.unusedVariables false
theorem rdl_mem2 {ws : List (List Int)} {i : Int} (h0 : 0 ≤ i) (h1 : i < ws.length) : rdl ws i ∈ ws := by
  unfold rdl
  rw [List.getD_eq_getElem?_getD, List.getElem?_eq_getElem (by omega)]
  exact List.getElem_mem _
theorem take_succ_rdl2 {ws : List (List Int)} {i : Int} (h0 : 0 ≤ i) (h1 : i < ws.length) : ws.take (i + 1).toNat = ws.take i.toNat ++ [rdl ws i] := by
  rw [show (i + 1).toNat = i.toNat + 1 by omega, List.take_add_one, List.getElem?_eq_getElem (by omega)]
  unfold rdl
  rw [List.getD_eq_getElem?_getD, List.getElem?_eq_getElem (by omega)]
  rfl
theorem orL_kcmp (x y : List Int) (a b : Int) : orL [cmpL x y, cmpI a b] = kcmp (x, a) (y, b) := by
  unfold kcmp orL orL orL
  simp only
  split
  · rfl
  · split
    · rfl
    · omega
theorem rings_yes {ws : List (List Int)} {l : List RC} {i : Int} {A : Option Addr} {c : Nat} (h0 : 0 ≤ i) (h1 : i < ws.length) (hl : l.map RC.rt = ringsOf (ws.take i.toNat)) (ht : 0 < timesW (lw (rdl ws i))) : (l ++ [(⟨A, c, rootW (lw (rdl ws i)), timesW (lw (rdl ws i))⟩ : RC)]).map RC.rt = ringsOf (ws.take (i + 1).toNat) := by
  have hp : 0 < (rdl ws i).length := by
    rcases Nat.eq_zero_or_pos (rdl ws i).length with z | z
    · rw [List.eq_nil_of_length_eq_zero z] at ht
      simp [lw_nil, timesW] at ht
    · exact z
  rw [List.map_append, hl, take_succ_rdl2 h0 h1, ringsOf_append]
  congr 1
  unfold ringsOf
  simp [hp, RC.rt, ringOf]
theorem rings_no {ws : List (List Int)} {l : List RC} {i : Int} (h0 : 0 ≤ i) (h1 : i < ws.length) (hl : l.map RC.rt = ringsOf (ws.take i.toNat)) (ht : ¬ 0 < timesW (lw (rdl ws i))) : l.map RC.rt = ringsOf (ws.take (i + 1).toNat) := by
  have hp : (rdl ws i).length = 0 := by
    rcases Nat.eq_zero_or_pos (rdl ws i).length with z | z
    · exact z
    · exact absurd (times_pos (c := lw (rdl ws i)) (by rw [lw_len]; exact z)) ht
  rw [hl, take_succ_rdl2 h0 h1, ringsOf_append]
  unfold ringsOf
  simp [hp]
theorem ringsOf_few (ws : List (List Int)) : (ringsOf ws).length ≤ ws.length := by
  unfold ringsOf
  rw [List.length_map]
  exact List.length_filter_le _ _
theorem lw_bytes {u : List Int} (h : ByteL u) : ByteL (lw u) := ByteL.append (h.drop _) (h.take _)
theorem kcmp_swo : Go.Sort.SWO (Go.Proofs.ltOf fun x y : RC => kcmp x.rt y.rt) := by
  have e : ∀ x y : RC, Go.Proofs.ltOf (fun x y : RC => kcmp x.rt y.rt) x y = true ↔ kcmp x.rt y.rt < 0 := fun x y => by simp [Go.Proofs.ltOf]
  have e' : ∀ x y : RC, Go.Proofs.ltOf (fun x y : RC => kcmp x.rt y.rt) x y = false ↔ kcmp y.rt x.rt ≤ 0 := fun x y => by
    rw [← Bool.not_eq_true, e, kcmp_anti x.rt y.rt]; omega
  refine ⟨fun x => ?_, fun x y z h1 h2 => ?_, fun x y z h1 h2 => ?_⟩
  · rw [e', (kcmp_eq x.rt x.rt).2 rfl]; omega
  · rw [e] at h1 h2 ⊢
    have h3 := kcmp_le x.rt y.rt z.rt (by omega) (by omega)
    rcases Int.lt_or_eq_of_le h3 with g | g
    · exact g
    · have g2 := (kcmp_eq _ _).1 g
      rw [g2, kcmp_anti y.rt z.rt] at h1
      omega
  · rw [e'] at h1 h2 ⊢
    exact kcmp_le _ _ _ h2 h1
set_option maxRecDepth 100000 in
theorem ringCmp_ct {w : World} {A_x : Option Addr} {c_x : Nat} {x : List Int} {t_x : Int} {A_y : Option Addr} {c_y : Nat} {y : List Int} {t_y : Int} (h_x : Rd w A_x x.length c_x 1 (ints .u8 x)) (h_y : Rd w A_y y.length c_y 1 (ints .u8 y)) (bh_x : ByteL x) (bh_y : ByteL y) :
    Ct Try.prog 65 #[.agg #[.slice A_x x.length c_x, .int .i64 t_x], .agg #[.slice A_y y.length c_y, .int .i64 t_y]] w.heap.size w [] (fun v R' => v = .int .i64 (kcmp (x, t_x) (y, t_y))) := by
  refine fn1 Try.func65 rfl rfl rfl ?_
  refine w_seq ?_
  refine w_reg ?_
  refine wr_a rfl (a_box (sz := 2) rfl rfl) ?_
  rintro _ _ ⟨g_1, rfl, rfl⟩
  refine wr_rows (R1 := [⟨57, 2, (some ⟨g_1, 0, none⟩), 1, 1, [.slice A_x x.length c_x, .int .i64 t_x], false⟩]) rfl ?_
  refine wr_a rfl (a_box (sz := 2) rfl rfl) ?_
  rintro _ _ ⟨g_3, rfl, rfl⟩
  refine wr_rows (R1 := [⟨57, 2, (some ⟨g_3, 0, none⟩), 1, 1, [.slice A_y y.length c_y, .int .i64 t_y], false⟩, ⟨57, 2, (some ⟨g_1, 0, none⟩), 1, 1, [.slice A_x x.length c_x, .int .i64 t_x], false⟩]) rfl ?_
  refine wr_y rfl (y_assign rfl) ?_
  refine wr_nil ?_
  refine w_seq ?_
  refine w_regd mixed ?_
  refine wd_y 0 rfl (by kernel_rfl) rfl (y_fieldAt (off := 0) (m := 0) Try.underlying57 rfl sz22 rfl rfl rfl) ?_
  refine wd_y 1 rfl (by kernel_rfl) rfl (y_ldIn (rdR 1 (r := ⟨57, 2, (some ⟨g_1, 0, none⟩), 1, 1, [.slice A_x x.length c_x, .int .i64 t_x], false⟩) rfl) Try.underlying22 rfl rfl rfl) ?_
  refine wd_y 2 rfl (by kernel_rfl) rfl (y_fieldAt (off := 0) (m := 0) Try.underlying57 rfl sz22 rfl rfl rfl) ?_
  refine wd_y 3 rfl (by kernel_rfl) rfl (y_ldIn (rdR 0 (r := ⟨57, 2, (some ⟨g_3, 0, none⟩), 1, 1, [.slice A_y y.length c_y, .int .i64 t_y], false⟩) rfl) Try.underlying22 rfl rfl rfl) ?_
  refine wd_y 5 rfl (by kernel_rfl) rfl (y_fieldAt (off := 1) (m := 1) Try.underlying57 rfl sz3 rfl rfl rfl) ?_
  refine wd_y 6 rfl (by kernel_rfl) rfl (y_ldIn (rdR 1 (r := ⟨57, 2, (some ⟨g_1, 0, none⟩), 1, 1, [.slice A_x x.length c_x, .int .i64 t_x], false⟩) rfl) Try.underlying3 rfl rfl rfl) ?_
  refine wd_y 7 rfl (by kernel_rfl) rfl (y_fieldAt (off := 1) (m := 1) Try.underlying57 rfl sz3 rfl rfl rfl) ?_
  refine wd_y 8 rfl (by kernel_rfl) rfl (y_ldIn (rdR 0 (r := ⟨57, 2, (some ⟨g_3, 0, none⟩), 1, 1, [.slice A_y y.length c_y, .int .i64 t_y], false⟩) rfl) Try.underlying3 rfl rfl rfl) ?_
  refine wd_a 4 rfl (by kernel_rfl) rfl (a_callF en67 rfl (Ct.quiet (fun w hw => compareBB_ct ((h_x.c _) w hw) ((h_y.c _) w hw) bh_x bh_y))) ?_
  rintro _ _ ⟨rfl, rfl⟩
  refine ⟨.inr fun _ h => h, ?_⟩
  refine wd_a 9 rfl (by kernel_rfl) rfl (a_callF en68 rfl (Ct.quiet (fun w hw => compareI_ct))) ?_
  rintro _ _ ⟨rfl, rfl⟩
  refine ⟨.inr fun _ h => h, ?_⟩
  refine wd_a 10 rfl (by kernel_rfl) rfl (a_litI .i64 [cmpL x y, cmpI t_x t_y] Try.underlying35 zs3 rfl rfl rfl) ?_
  rintro _ _ ⟨g_6, rfl, rfl⟩
  refine ⟨.inr fun _ h => h.right (R' := [_]), ?_⟩
  refine wd_a 11 rfl (by kernel_rfl) rfl (a_callF en66 rfl (Ct.quiet (fun w hw => orI_ct ((rdr 0 rfl) w hw)))) ?_
  rintro _ _ ⟨rfl, rfl⟩
  refine ⟨.inr fun _ h => h, ?_⟩
  refine wd_y 12 rfl (by kernel_rfl) rfl (y_assign rfl) ?_
  refine wd_nil (by kernel_rfl) ?_
  refine w_retR (R1 := []) (fun _ h => h.sel [] (by decide) rfl) ?_
  refine ⟨_, rfl, ?_⟩
  exact congrArg (Value.int .i64) (orL_kcmp x y t_x t_y)

theorem sortsRings (cb : Array Value) : SortsK Try.prog 64 65 cb 2 := fun α _ enc hk h1 cf hO blk off cap d w hcmp hH hblk hsz =>
  AnyQ.slices_SortFunc Try.laysRing 2 (fun w => by kernel_rfl) (fun w => by kernel_rfl) enc hk h1 cf hO 65 cb blk off cap d w en65 hcmp hH hblk hsz
theorem sortsRings0 : SortsNone Try.prog 64 := fun p cap fv w => AnyF.slices_SortFunc_none Try.laysRing p cap fv w
set_option maxRecDepth 100000 in
set_option maxHeartbeats 1000000 in
theorem rings_ct {w : World} {A_ws : Option Addr} {n_ws c_ws : Nat} {vals_ws : List Value} {ws : List (List Int)} (h_ws : Rd w A_ws n_ws c_ws 1 vals_ws) (s_ws : SlW .u8 w vals_ws ws) (hN : (∀ w ∈ ws, w.length ≤ 8000) ∧ ws.length ≤ 100000) :
    Ct Try.prog 40 #[.slice A_ws n_ws c_ws] w.heap.size w [] (fun v R' => ∃ (A : Option Addr) (c : Nat) (l : List RC) (Rs : List Row), v = .slice A l.length c ∧ RgR Rs l ∧ l.map RC.rt = ringS ws ∧ R' = ⟨57, 2, A, l.length, c, rgs l, false⟩ :: Rs) := by
  obtain rfl : n_ws = ws.length := by have := h_ws.len; have := s_ws.1; omega
  refine fn1 Try.func40 rfl rfl rfl ?_
  have m_ws := h_ws.max
  have hob := s_ws.okB
  refine w_seq ?_
  refine w_reg ?_
  refine wr_y rfl (y_assign rfl) ?_
  refine wr_nil ?_
  refine w_seq ?_
  refine w_reg ?_
  refine wr_sub (R1 := (⟨57, 2, none, 0, 0, rgs ([]), false⟩ :: [])) (Sub.refl _) (fun _ h => h.nil 57 2) ?_
  refine wr_y rfl (y_assign rfl) ?_
  refine wr_nil ?_
  refine w_seq ?_
  refine w_seq ?_
  refine w_reg ?_
  refine wr_y rfl (y_move rfl) ?_
  refine wr_y rfl (y_len Try.underlying30 rfl) ?_
  refine wr_y rfl (y_move rfl) ?_
  refine wr_nil ?_
  refine w_block ?_
  refine w_loop6 (fun (i : Int) (A1 : Option Addr) (n1 : Nat) (c1 : Nat) (l : List RC) (Rs : List Row) => [(3, .slice A1 n1 c1), (8, .slice A_ws ws.length c_ws), (9, .int .i64 ((ws.length : Nat) : Int)), (10, .int .i64 i)]) (fun (i : Int) (A1 : Option Addr) (n1 : Nat) (c1 : Nat) (l : List RC) (Rs : List Row) => (⟨57, 2, A1, n1, c1, rgs l, false⟩ :: Rs)) (fun (i : Int) (A1 : Option Addr) (n1 : Nat) (c1 : Nat) (l : List RC) (Rs : List Row) => (0 ≤ i) ∧ (i ≤ ws.length) ∧ (n1 = l.length) ∧ (RgR Rs l) ∧ (l.map RC.rt = ringsOf (ws.take i.toNat))) (fun (i : Int) (A1 : Option Addr) (n1 : Nat) (c1 : Nat) (l : List RC) (Rs : List Row) => (ws.length - i).toNat) ?_ ?_
  ·
    exact ⟨0, none, 0, 0, [], [], ⟨(by omega), (by omega), (rfl), (RgR.nil _), (rfl)⟩, (Sub.cons rfl (Sub.cons rfl (Sub.cons rfl (Sub.cons rfl Sub.nil)))), fun _ h => h⟩
  intro i A1 n1 c1 l Rs ⟨hi0, hi1, hn1, hrg, hl⟩
  have hll := congrArg List.length hl
  rw [List.length_map] at hll
  have hlf := ringsOf_few (ws.take i.toNat)
  rw [List.length_take] at hlf
  have hwl : 0 ≤ i → i < ws.length → (rdl ws i).length ≤ 8000 := fun h h' => hN.1 _ (rdl_mem2 h h')
  refine w_seq ?_
  refine w_reg ?_
  refine wr_y rfl (y_lt rfl rfl) ?_
  refine wr_nil ?_
  refine w_seq ?_
  refine w_if rfl (fun hc1 => ?_) (fun hc1 => ?_)
  ·
    have hwl2 := hwl hi0 (by omega)
    refine w_skip ?_
    refine w_seq ?_
    refine w_block ?_
    refine w_seq ?_
    refine w_reg ?_
    refine wr_y rfl (y_index1 Try.underlying30 sz22 rfl rfl (h_ws.c _) (by omega) (by omega)) ?_
    refine s_ws.elim (i := i) (by omega) (by omega) (fun A_1 c_2 hv_3 hr_4 hb_5 mhr_4 => ?_)
    refine wr_y rfl (y_ld Try.underlying22 rfl rfl rfl (h_ws.c _) hv_3) ?_
    refine wr_y rfl (y_assign rfl) ?_
    refine wr_nil ?_
    refine w_seq ?_
    refine w_reg ?_
    refine wr_y rfl (y_move rfl) ?_
    refine wr_a rfl (a_callF en63 rfl (Ct.fresh (fun w hw => ofL_ct ((hr_4.c _) w hw) (byteL_wf hb_5) (by omega)))) ?_
    rintro _ _ ⟨_, rfl, A_6, c_7, rfl, rfl⟩
    refine wr_a rfl (a_callF en62 rfl (Ct.fresh (fun w hw => rootP_ct ((rdr 0 rfl) w hw) (by rw [lw_len]; omega)))) ?_
    rintro _ _ ⟨_, rfl, A_9, c_10, rfl, rfl⟩
    refine wr_y rfl (y_move rfl) ?_
    refine wr_y rfl (y_extract rfl rfl) ?_
    refine wr_y rfl (y_extract rfl rfl) ?_
    refine wr_y rfl (y_assign rfl) ?_
    refine wr_y rfl (y_assign rfl) ?_
    refine wr_nil ?_
    refine w_seq ?_
    refine w_reg ?_
    refine wr_y rfl (y_move rfl) ?_
    refine wr_y rfl (y_gt rfl rfl) ?_
    refine wr_nil ?_
    refine w_if rfl (fun hc2 => ?_) (fun hc2 => ?_)
    ·
      refine w_reg ?_
      refine wr_y rfl (y_move rfl) ?_
      refine wr_y rfl (y_move rfl) ?_
      refine wr_y rfl (y_move rfl) ?_
      refine wr_y rfl (y_build (v := .agg #[.slice A_9 ((rootW (lw (rdl ws i))).length) c_10, .int .i64 (timesW (lw (rdl ws i)))]) rfl (fun w => by kernel_rfl)) ?_
      refine wr_a rfl (a_litR ⟨A_9, c_10, rootW (lw (rdl ws i)), timesW (lw (rdl ws i))⟩ Try.underlying54 zs57 rfl) ?_
      rintro _ _ ⟨g_12, rfl, rfl⟩
      refine wr_a rfl (a_appendR 3 rfl Try.underlying54 zb57 rfl rfl rfl rfl (rdr 0 rfl) (by omega)) ?_
      rintro _ _ ⟨A_13, c_14, rfl, rfl⟩
      refine wr_rows (R1 := (⟨57, 2, (some ⟨g_12, 0, none⟩), 1, 1, rgs ([⟨A_9, c_10, rootW (lw (rdl ws i)), timesW (lw (rdl ws i))⟩]), false⟩ :: ⟨5, 1, A_9, (rootW (lw (rdl ws i))).length, c_10, ints .u8 (rootW (lw (rdl ws i))), false⟩ :: ⟨5, 1, A_6, (lw (rdl ws i)).length, c_7, ints .u8 (lw (rdl ws i)), false⟩ :: ⟨57, 2, A_13, (n1 + 1), c_14, rgs (l ++ ([⟨A_9, c_10, rootW (lw (rdl ws i)), timesW (lw (rdl ws i))⟩])), false⟩ :: Rs)) rfl ?_
      refine wr_as (v := .slice A_13 (n1 + 1) c_14) rfl ?_
      refine wr_y rfl (y_assign rfl) ?_
      refine wr_nil ?_
      refine w_reg ?_
      refine wr_y rfl (y_addI rfl rfl (by omega)) ?_
      refine wr_y rfl (y_move rfl) ?_
      refine wr_nil ?_
      exact ⟨i + 1, A_13, n1 + 1, c_14, l ++ ([⟨A_9, c_10, rootW (lw (rdl ws i)), timesW (lw (rdl ws i))⟩]), (⟨5, 1, A_9, (rootW (lw (rdl ws i))).length, c_10, ints .u8 (rootW (lw (rdl ws i))), false⟩ :: Rs), ⟨(by omega), (by omega), (by rw [List.length_append, hn1]; rfl), (hrg.snoc rfl (ByteL.take (lw_bytes (hob _ (rdl_mem2 hi0 (by omega))).1) _)), (rings_yes hi0 (by omega) hl (by assumption))⟩, (by omega), (Sub.cons rfl (Sub.cons rfl (Sub.cons rfl (Sub.cons rfl Sub.nil)))), fun _ h => h.selR (F := [_, _, _, _]) (F' := [_, _]) [3, 1] (by decide) rfl⟩
    ·
      refine w_skip ?_
      refine w_reg ?_
      refine wr_y rfl (y_addI rfl rfl (by omega)) ?_
      refine wr_y rfl (y_move rfl) ?_
      refine wr_nil ?_
      exact ⟨i + 1, A1, n1, c1, l, Rs, ⟨(by omega), (by omega), (hn1), (hrg), (rings_no hi0 (by omega) hl (by assumption))⟩, (by omega), (Sub.cons rfl (Sub.cons rfl (Sub.cons rfl (Sub.cons rfl Sub.nil)))), fun _ h => h.selR (F := [_, _, _]) (F' := [_]) [2] (by decide) rfl⟩
  ·
    obtain rfl := hn1
    obtain rfl : i = ws.length := by omega
    rw [Int.toNat_natCast, List.take_length] at hl
    refine w_exit ?_
    refine w_seq ?_
    refine w_reg ?_
    refine wr_y rfl (y_move rfl) ?_
    refine wr_a rfl (a_callF en64 rfl (sort_cells (enc := encR) (sortsRings _) sortsRings0 (fun _ => rfl) encR_one (l := l) 0 rfl (by omega) (fun x y => kcmp x.rt y.rt) kcmp_swo (fun W hW x hx y hy => ringCmp_ct ((hrg x hx).2 _ _ _ hW) ((hrg y hy).2 _ _ _ hW) (hrg x hx).1 (hrg y hy).1))) ?_
    rintro _ _ ⟨rfl, l1, hp1, hs1, rfl⟩
    rw [← hp1.length_eq]
    refine wr_rows (R1 := (⟨57, 2, A1, l1.length, c1, rgs l1, false⟩ :: Rs)) rfl ?_
    refine wr_nil ?_
    refine w_seq ?_
    refine w_reg ?_
    refine wr_y rfl (y_move rfl) ?_
    refine wr_y rfl (y_assign rfl) ?_
    refine wr_nil ?_
    refine w_retR (R1 := (⟨57, 2, A1, l1.length, c1, rgs l1, false⟩ :: Rs)) (fun _ h => h) ?_
    refine ⟨_, rfl, ?_⟩
    exact ⟨_, _, l1, Rs, rfl, hrg.perm hp1, ringS_one ((hp1.map RC.rt).trans (by rw [hl])) (List.pairwise_map.2 (hs1.imp fun {a b} h => by rw [kcmp_anti a.rt b.rt] at h; omega)), rfl⟩

end Go.Proofs.Ytdfcnalkdlifiaa

/-! ## E23 -/
namespace Go.Eng
open Go Go.RowKit
section
variable {P : Program} {n : Nd} {B : Nat} {w0 : World} {ops : Array Oper} {K : Env → List Row → Prop} {L : Env} {R Rc : List Row} {op : Op} {ty : TypeId} {pos : String} {aft : Array Edge}
/-- R: what is known; Rc: what has come up rests on. -/
def WDc (P : Program) (n : Nd) (B : Nat) (w0 : World) (ops : Array Oper) (K : Env → List Row → Prop) (fuel : Nat) (listed : Array Bool) (L : Env) (R Rc : List Row) : Prop :=
  ∀ a w (Q : Exit → Act → World → Prop), Sat n L a → Hp B w0 w R → (∀ w, Hp B w0 w R → Hp B w0 w Rc) → (∀ c a w, ¬ Q (.panic c) a w) → (∀ a' w' L' R', Sat n L' a' → Hp B w0 w' R' → K L' R' → Q .normal a' w') → wpAnyB P ops Q fuel (fun w => Hp B w0 w Rc) listed a w
def Turnc (P : Program) (n : Nd) (B : Nat) (w0 : World) (ops : Array Oper) (K : Env → List Row → Prop) (fuel : Nat) (listed : Array Bool) (L : Env) (R Rc : List Row) (i : Nat) : Prop :=
  ∀ a w (Q : Exit → Act → World → Prop), Sat n L a → Hp B w0 w R → (∀ w, Hp B w0 w R → Hp B w0 w Rc) → (∀ c a w, ¬ Q (.panic c) a w) → (∀ a' w' L' R', Sat n L' a' → Hp B w0 w' R' → K L' R' → Q .normal a' w') →
    wpOp P ops Q i (fun a' w' => ∃ S' : World → Prop, S' w' ∧ (barB ops listed i = true ∨ ∀ x, S' x → Hp B w0 x Rc) ∧ wpAnyB P ops Q fuel S' (listed.setIfInBounds i true) a' w') a w
theorem cd_y {d : Nat} {v : Value} {fuel : Nat} {listed : Array Bool} (i : Nat) (hi : ops[i]? = some { dst := some d, op := op, type := ty, pos := pos, after := aft, guard := none }) (hc : chk ops listed i = true) (hn : Nat.blt d n = true)
    (hy : Yl P n B w0 op ty L Rc v) (h : WDc P n B w0 ops K fuel (listed.setIfInBounds i true) ((d, v) :: L) R Rc) : WDc P n B w0 ops K (fuel + 1) listed L R Rc := by
  intro a w Q hs hp hsub hpan hq
  simp only [chk, Bool.and_eq_true] at hc
  obtain ⟨⟨⟨h1, h2⟩, h3⟩, h4⟩ := hc
  refine wpAnyB_first hi (Region.noSelect_spec h1) (fun c a w hh => (hpan c _ w hh).elim) fuel _ listed a w h4 (Region.free_spec hi h2) (by simpa using h3) (.inl ⟨rfl, fun w hw => hy a w _ rfl rfl hs hw⟩) (hsub w hp) ?_
  exact h _ w Q (hs.put hn v) hp hsub hpan hq
theorem cd_nil {fuel : Nat} {listed : Array Bool} (hr : Region.ready .any ops listed = []) (h : K L R) : WDc P n B w0 ops K fuel listed L R Rc := by
  intro a w Q hs hp _ hpan hq
  cases fuel with
  | zero => exact ⟨hr, hq _ _ L R hs hp h⟩
  | succ fuel => exact ⟨fun _ => hq _ _ L R hs hp h, by rw [hr]; simp⟩
theorem c1_a {d : Nat} {Post : Value → List Row → Prop} {fuel : Nat} {listed : Array Bool} (i : Nat) (hi : ops[i]? = some { dst := some d, op := op, type := ty, pos := pos, after := aft, guard := none }) (hn : Nat.blt d n = true) (ha : Ac P n B w0 op ty L R Post)
    (h : ∀ v R', Post v R' → (∀ w, Hp B w0 w R' → Hp B w0 w Rc) ∧ WDc P n B w0 ops K fuel (listed.setIfInBounds i true) ((d, v) :: L) R' Rc) : Turnc P n B w0 ops K fuel listed L R Rc i := by
  intro a w Q hs hp hsub hpan hq
  unfold wpOp
  simp only [hi]
  rw [if_pos (by simp [Region.wanted])]
  refine .inl (ha a w _ _ Q rfl rfl hs hp fun v w' R' hp' hv => ?_)
  obtain ⟨h1, h2⟩ := h v R' hv
  exact ⟨fun w => Hp B w0 w Rc, h1 w' hp', .inr fun _ h => h, h2 _ w' Q (hs.put hn v) hp' h1 hpan hq⟩
theorem cd_one {fuel : Nat} {listed : Array Bool} (i : Nat) (hr : Region.ready .any ops listed = [i]) (hi : Turnc P n B w0 ops K fuel listed L R Rc i) : WDc P n B w0 ops K (fuel + 1) listed L R Rc := by
  intro a w Q hs hp hsub hpan hq
  refine ⟨fun h0 => absurd (hr ▸ h0) (by simp), fun k hk => ?_⟩
  rw [hr] at hk
  obtain rfl := List.mem_singleton.1 hk
  exact hi a w Q hs hp hsub hpan hq
theorem cd_two {fuel : Nat} {listed : Array Bool} (i j : Nat) (hr : Region.ready .any ops listed = [i, j]) (hi : Turnc P n B w0 ops K fuel listed L R Rc i) (hj : Turnc P n B w0 ops K fuel listed L R Rc j) : WDc P n B w0 ops K (fuel + 1) listed L R Rc := by
  intro a w Q hs hp hsub hpan hq
  refine ⟨fun h0 => absurd (hr ▸ h0) (by simp), fun k hk => ?_⟩
  rw [hr] at hk
  rcases List.mem_cons.1 hk with rfl | hk
  · exact hi a w Q hs hp hsub hpan hq
  · obtain rfl := List.mem_singleton.1 hk
    exact hj a w Q hs hp hsub hpan hq
theorem cd_as {fuel : Nat} {listed : Array Bool} {d : Nat} {u v : Value} (hu : u = v) (h : WDc P n B w0 ops K fuel listed ((d, v) :: L) R Rc) : WDc P n B w0 ops K fuel listed ((d, u) :: L) R Rc := by
  subst hu
  exact h
theorem cd_rows {fuel : Nat} {listed : Array Bool} {R1 : List Row} (hR : R = R1) (h : WDc P n B w0 ops K fuel listed L R1 Rc) : WDc P n B w0 ops K fuel listed L R Rc := by
  subst hR
  exact h
end
end Go.Eng

/-! ## E29 -/
namespace Go.Eng
open Go Go.RowKit Go.Pure
section
variable {P : Program} {n : Nd} {B : Nat} {w0 : World} {L : Env} {R : List Row} {ty : TypeId}
/-- A drawn region whose computing rests on some of the rows alone. -/
theorem w_regdc {id : Nat} {l : List Oper} {Q : PostC} {Rc : List Row} (hm : P.follows .mixedOrders = true) (hR : ∀ w, Hp B w0 w R → Hp B w0 w Rc) (h : WDc P n B w0 l.toArray Q.nrm l.toArray.size (Array.replicate l.toArray.size false) L R Rc) (hd : noDef n.rd l = true := by exact rfl) : W P n B w0 (.region id l.toArray true) Q L R := by
  intro a w hs hp
  refine wpIn_region_any hm (anyIn PQ_out hd _ _ _ _ <| wpAny_of_B _ _ _ _ _ (h a _ _ hs (hp.drawn _ (Nat.le_succ _)) hR (fun _ _ _ h => h) fun _ _ L' R' hs' hp' hk => ⟨L', R', hs', hp', hk⟩))
theorem SlR.nilR (k : IntKind) (Rs : List Row) : SlR k Rs [] [] := ⟨rfl, fun j hj => by simp at hj⟩
theorem OkB.app {a b : List (List Int)} (ha : OkB a) (hb : OkB b) : OkB (a ++ b) := fun l hl => (List.mem_append.1 hl).elim (ha l) (hb l)
end
end Go.Eng

