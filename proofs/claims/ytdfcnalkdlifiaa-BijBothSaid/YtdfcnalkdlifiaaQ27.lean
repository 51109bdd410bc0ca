/- Several texts of our own in one: Q26, Q27. -/
import Derived.Test.YtdfcnalkdlifiaaQ25
/-
  Plain laws: pieces between the first small ones; their names; what order the names' endings say. Own work.
-/
namespace Go.Pure
open Go Go.Eng
section
variable {s : List Int} {k : Int}
theorem iota_inc (n : Nat) : (iota n).Pairwise (· < ·) := by
  unfold iota
  refine List.pairwise_map.2 (List.Pairwise.imp (fun h => ?_) List.pairwise_lt_range)
  omega
/-- A number with its kind; behind all: less than any. -/
def kk (s : List Int) (p : Int) : Int := if p < s.length then 2 * rd s p + (if smB s p = true then 1 else 0) else -1
theorem kk_end {p : Int} (h : (s.length : Int) ≤ p) : kk s p = -1 := if_neg (by omega)
theorem kk_lt {p : Int} (h : p < s.length) : kk s p = 2 * rd s p + (if smB s p = true then 1 else 0) := if_pos h
theorem kk_L {p : Int} (h : isL s p) : kk s p = 2 * rd s p := by rw [kk_lt h.1.2, h.2]; simp
theorem kk_S {p : Int} (h : isS s p) : kk s p = 2 * rd s p + 1 := by rw [kk_lt h.1.2, h.2]; simp
def Nn (s : List Int) : Prop := ∀ x ∈ s, 0 ≤ x
theorem kk_in (hs : Nn s) {p : Int} (h0 : 0 ≤ p) (h : p < s.length) : 0 ≤ kk s p := by
  have := hs _ (rd_mem h0 h)
  rw [kk_lt h]
  split <;> omega
theorem kk_ge (hs : Nn s) {p : Int} (h0 : 0 ≤ p) : -1 ≤ kk s p := by
  rcases Int.lt_or_le p s.length with h | h
  · have := kk_in hs h0 h; omega
  · rw [kk_end h]; omega
/-- The same number of the same kind. -/
theorem kk_same (hs : Nn s) {p q : Int} (p0 : 0 ≤ p) (q0 : 0 ≤ q) (e : kk s p = kk s q) (h : p < s.length) : q < s.length ∧ rd s p = rd s q ∧ smB s p = smB s q := by
  have hq : q < s.length := by
    rcases Int.lt_or_le q s.length with a | a
    · exact a
    · have := kk_in hs p0 h
      rw [kk_end a] at e
      omega
  rw [kk_lt h, kk_lt hq] at e
  cases a : smB s p <;> cases b : smB s q <;> simp [a, b] at e <;> exact ⟨hq, by omega, by first | rfl | omega⟩
theorem kk_less (hs : Nn s) {p q : Int} (p0 : 0 ≤ p) (q0 : 0 ≤ q) (h : kk s p < kk s q) (hp : p < s.length) : ordE s p q := by
  have hq : q < s.length := by
    rcases Int.lt_or_le q s.length with a | a
    · exact a
    · have := kk_in hs p0 hp
      rw [kk_end a] at h
      omega
  rcases isL_or_isS (s := s) ⟨p0, hp⟩ with a | a <;> rcases isL_or_isS (s := s) ⟨q0, hq⟩ with b | b
  · rw [kk_L a, kk_L b] at h; exact ord_char ⟨p0, hp⟩ ⟨q0, hq⟩ (by omega)
  · rw [kk_L a, kk_S b] at h
    by_cases e : rd s p = rd s q
    · exact ls_ord a b e
    · exact ord_char ⟨p0, hp⟩ ⟨q0, hq⟩ (by omega)
  · rw [kk_S a, kk_L b] at h; exact ord_char ⟨p0, hp⟩ ⟨q0, hq⟩ (by omega)
  · rw [kk_S a, kk_S b] at h; exact ord_char ⟨p0, hp⟩ ⟨q0, hq⟩ (by omega)
theorem ord_end {q : Int} (q0 : 0 ≤ q) (hq : q < s.length) {p : Int} (hp : (s.length : Int) ≤ p) : ordE s p q := by
  rw [← ordE_cmp, drop_end hp, drop_rd q0 hq]
  simp [cmpL]
/-- The first difference decides. -/
theorem kk_ord (hs : Nn s) : ∀ (d : Nat) (x y : Int), 0 ≤ x → 0 ≤ y → (∀ i : Nat, i < d → kk s (x + i) = kk s (y + i)) → kk s (x + d) < kk s (y + d) → ordE s x y
  | 0, x, y, x0, y0, _, h => by
    simp only [Int.natCast_zero, Int.add_zero] at h
    rcases Int.lt_or_le x s.length with a | a
    · exact kk_less hs x0 y0 h a
    · have hy : y < s.length := by
        rcases Int.lt_or_le y s.length with b | b
        · exact b
        · rw [kk_end a, kk_end b] at h; omega
      exact ord_end y0 hy a
  | d + 1, x, y, x0, y0, he, h => by
    have e0 := he 0 (by omega)
    simp only [Int.natCast_zero, Int.add_zero] at e0
    have ih := kk_ord hs d (x + 1) (y + 1) (by omega) (by omega) (fun i hi => by
      have := he (i + 1) (by omega)
      rwa [show x + ((i + 1 : Nat) : Int) = x + 1 + i by omega, show y + ((i + 1 : Nat) : Int) = y + 1 + i by omega] at this) (by rwa [show x + ((d + 1 : Nat) : Int) = x + 1 + d by omega, show y + ((d + 1 : Nat) : Int) = y + 1 + d by omega] at h)
    rcases Int.lt_or_le x s.length with a | a
    · obtain ⟨hy, e, _⟩ := kk_same hs x0 y0 e0 a
      rw [ord_cons x0 a y0 hy]
      exact .inr ⟨e, ordE_cmp.2 ih⟩
    · have b : (s.length : Int) ≤ y := by
        rcases Int.lt_or_le y s.length with b | b
        · have := (kk_same hs y0 x0 e0.symm b).1; omega
        · exact b
      rw [kk_end (by omega : (s.length : Int) ≤ x + ((d + 1 : Nat) : Int)), kk_end (by omega : (s.length : Int) ≤ y + ((d + 1 : Nat) : Int))] at h
      omega
/-- The same numbers for a while, then endings in order. -/
theorem chars_back : ∀ (d : Nat) (x y : Int), 0 ≤ x → 0 ≤ y → x + d < s.length → y + d < s.length → (∀ i : Nat, i < d → rd s (x + i) = rd s (y + i)) → ordE s (x + d) (y + d) → ordE s x y
  | 0, x, y, _, _, _, _, _, h => by simpa using h
  | d + 1, x, y, x0, y0, hx, hy, he, h => by
    have e0 := he 0 (by omega)
    simp only [Int.natCast_zero, Int.add_zero] at e0
    refine ord_back x0 (by omega) y0 (by omega) e0 (chars_back d (x + 1) (y + 1) (by omega) (by omega) (by omega) (by omega) (fun i hi => ?_) ?_)
    · have := he (i + 1) (by omega)
      rwa [show x + ((i + 1 : Nat) : Int) = x + 1 + i by omega, show y + ((i + 1 : Nat) : Int) = y + 1 + i by omega] at this
    · rwa [show x + ((d + 1 : Nat) : Int) = x + 1 + d by omega, show y + ((d + 1 : Nat) : Int) = y + 1 + d by omega] at h
/-! orders up to the next first one -/
/-- Up to the first one at x or behind it. -/
def pcL (s : List Int) (x y : Int) : Prop := ∀ d : Nat, (∀ i : Nat, i < d → kk s (x + i) = kk s (y + i) ∧ fstB s (x + i) = false) → kk s (x + d) ≤ kk s (y + d)
/-- Up to the first one behind x. -/
def pcS (s : List Int) (x y : Int) : Prop := ∀ d : Nat, (∀ i : Nat, i < d → kk s (x + i) = kk s (y + i) ∧ (0 < i → fstB s (x + i) = false)) → kk s (x + d) ≤ kk s (y + d)
def pcE (s : List Int) (x y : Int) : Prop := ∀ d : Nat, (∀ i : Nat, 0 < i → i < d → fstB s (x + i) = false) → kk s (x + d) = kk s (y + d)
theorem pcS.toL {x y : Int} (h : pcS s x y) : pcL s x y := fun d hd => h d fun i hi => ⟨(hd i hi).1, fun _ => (hd i hi).2⟩
theorem pcL.toS {x y : Int} (h : pcL s x y) (hx : fstB s x = false) : pcS s x y := fun d hd => h d fun i hi => ⟨(hd i hi).1, by
  rcases Nat.eq_zero_or_pos i with e | e
  · subst e; simpa using hx
  · exact (hd i hi).2 e⟩
theorem pcS_lt {x y : Int} (h : kk s x < kk s y) : pcS s x y := fun d hd => by
  rcases Nat.eq_zero_or_pos d with e | e
  · subst e; simp; omega
  · have := (hd 0 e).1
    simp at this
    omega
theorem pcS_cons {x y : Int} (e : kk s x = kk s y) (h : pcL s (x + 1) (y + 1)) : pcS s x y := fun d hd => by
  match d with
  | 0 => simp; omega
  | d + 1 =>
    have := h d fun i hi => by
      have := hd (i + 1) (by omega)
      rw [show x + ((i + 1 : Nat) : Int) = x + 1 + i by omega, show y + ((i + 1 : Nat) : Int) = y + 1 + i by omega] at this
      exact ⟨this.1, this.2 (by omega)⟩
    rwa [show x + ((d + 1 : Nat) : Int) = x + 1 + d by omega, show y + ((d + 1 : Nat) : Int) = y + 1 + d by omega]
theorem isL.not_fst {x : Int} (h : isL s x) : fstB s x = false := by
  cases e : fstB s x with
  | false => rfl
  | true => have := (fstB_iff.1 e).2.1; rw [h.2] at this; cases this
theorem pcS_char {p q : Int} (hp : 0 ≤ p ∧ p < s.length) (hq : 0 ≤ q ∧ q < s.length) (h : rd s p < rd s q) : pcS s p q := by
  refine pcS_lt ?_
  rw [kk_lt hp.2, kk_lt hq.2]
  split <;> split <;> omega
theorem pcS_ls {p q : Int} (hp : isL s p) (hq : isS s q) (e : rd s p = rd s q) : pcS s p q := pcS_lt (by rw [kk_L hp, kk_S hq]; omega)
theorem pc_relL (hs : Nn s) : RelL s (pcL s) := ⟨fun hp hq h => (pcS_char hp hq h).toL, fun hp hq e => (pcS_ls hp hq e).toL, fun {q} hn q0 hq e hL => by
    have hl : isL s (s.length - 1) := ⟨by omega, smB_last (by omega) (by omega)⟩
    refine (pcS_cons (by rw [kk_L hl, kk_L hL, e]) fun d hd => ?_).toL
    rw [kk_end (by omega : (s.length : Int) ≤ s.length - 1 + 1 + d)]
    exact kk_ge hs (by omega), fun hp hq _ _ e h => (pcS_cons (by rw [kk_L hp, kk_L hq, e]) h).toL⟩
theorem pc_relS : RelS s (pcS s) := ⟨pcS_char, pcS_ls, fun hp hq _ _ e h => pcS_cons (by rw [kk_S hp, kk_S hq, e]) h.toL⟩
theorem pc_key (l : List Int) (ok : FirstOk s l) (c : Int) : (ofKey l s c).Pairwise (pcL s) := by
  refine List.pairwise_iff_getElem.2 fun i j hi hj _ => ?_
  have hx := List.mem_filter.1 (List.getElem_mem hi)
  have hy := List.mem_filter.1 (List.getElem_mem hj)
  rw [decide_eq_true_iff] at hx hy
  intro d hd
  match d with
  | 0 => simp only [Int.natCast_zero, Int.add_zero]; rw [kk_S (ok.small hx.1), kk_S (ok.small hy.1)]; omega
  | d + 1 =>
    have := (hd 0 (by omega)).2
    simp only [Int.natCast_zero, Int.add_zero] at this
    rw [(ok.2 _ hx.1).2] at this
    cases this
/-- Whatever the order of the first ones, the pieces come in order. -/
theorem ind_pieces (hk : 0 ≤ k) (hs : ∀ x ∈ s, 0 ≤ x ∧ x < k) {l : List Int} (hp : l.Perm (fstL s)) (hn : 0 < s.length) : (indS s k l).Perm (iota s.length) ∧ (indS s k l).Pairwise (pcS s) := by
  have h := indS_rel hk hs (pc_relL fun x hx => (hs x hx).1) pc_relS (fun p q hp _ h => h.toS hp.not_fst) (pc_key l (firstOk_of hp)) hp hn
  exact ⟨h.1, h.2.2⟩
/-! the same pieces -/
theorem fst_kk (hs : Nn s) {x y : Int} (x0 : 0 ≤ x) (y0 : 0 ≤ y) (e : kk s x = kk s y) (e1 : kk s (x + 1) = kk s (y + 1)) : fstB s (x + 1) = fstB s (y + 1) := by
  unfold fstB
  rw [show x + 1 - 1 = x by omega, show y + 1 - 1 = y by omega]
  rw [decide_eq_true (by omega : 0 < x + 1), decide_eq_true (by omega : 0 < y + 1)]
  rcases Int.lt_or_le (x + 1) s.length with a | a
  · rw [(kk_same hs x0 y0 e (by omega)).2.2, (kk_same hs (by omega) (by omega) e1 a).2.2]
  · have b : (s.length : Int) ≤ y + 1 := by
      rcases Int.lt_or_le (y + 1) s.length with b | b
      · have := (kk_same hs (by omega) (by omega) e1.symm b).1; omega
      · exact b
    rw [smB_last (i := x + 1) (by omega) (by omega), smB_last (i := y + 1) (by omega) (by omega)]
    simp
theorem fst_kks (hs : Nn s) {x y : Int} (x0 : 0 ≤ x) (y0 : 0 ≤ y) {i : Nat} (hi : 0 < i) (e : ∀ j : Nat, j ≤ i → kk s (x + j) = kk s (y + j)) : fstB s (x + i) = fstB s (y + i) := by
  have h1 := e (i - 1) (by omega)
  have h2 := e i (Nat.le_refl _)
  have := fst_kk hs (x := x + ((i - 1 : Nat) : Int)) (y := y + ((i - 1 : Nat) : Int)) (by omega) (by omega) h1 (by rwa [show x + ((i - 1 : Nat) : Int) + 1 = x + i by omega, show y + ((i - 1 : Nat) : Int) + 1 = y + i by omega])
  rwa [show x + ((i - 1 : Nat) : Int) + 1 = x + i by omega, show y + ((i - 1 : Nat) : Int) + 1 = y + i by omega] at this
/-- What stands between the same pieces is the same piece. -/
theorem sandwich (hs : Nn s) {x u v y : Int} (x0 : 0 ≤ x) (u0 : 0 ≤ u) (v0 : 0 ≤ v) (h1 : pcS s x u) (h2 : pcS s u v) (h3 : pcS s v y) (he : pcE s x y) : ∀ d : Nat, (∀ i : Nat, 0 < i → i < d → fstB s (u + i) = false) → ∀ i : Nat, i ≤ d → kk s (x + i) = kk s (u + i) ∧ kk s (u + i) = kk s (v + i) ∧ kk s (x + i) = kk s (y + i)
  | 0, _, i, hi => by
    obtain rfl : i = 0 := by omega
    have a := h1 0 (fun i hi => by omega)
    have b := h2 0 (fun i hi => by omega)
    have c := h3 0 (fun i hi => by omega)
    have d := he 0 (fun i _ hi => by omega)
    omega
  | d + 1, hd, i, hi => by
    have ih := sandwich hs x0 u0 v0 h1 h2 h3 he d fun i h0 hi => hd i h0 (by omega)
    rcases Nat.lt_or_ge d i with g | g
    · obtain rfl : i = d + 1 := by omega
      have fu : ∀ i : Nat, i < d + 1 → 0 < i → fstB s (u + i) = false := fun i hi h0 => hd i h0 hi
      have fx : ∀ i : Nat, i < d + 1 → 0 < i → fstB s (x + i) = false := fun i hi h0 => by
        rw [fst_kks hs x0 u0 h0 fun j hj => (ih j (by omega)).1]
        exact fu i hi h0
      have vy : ∀ i : Nat, i < d + 1 → kk s (v + i) = kk s (y + i) := fun i hi => by have := ih i (by omega); omega
      have a := h1 (d + 1) fun i hi => ⟨(ih i (by omega)).1, fx i hi⟩
      have b := h2 (d + 1) fun i hi => ⟨(ih i (by omega)).2.1, fu i hi⟩
      have e := he (d + 1) fun i h0 hi => fx i hi h0
      have c : kk s (v + ((d + 1 : Nat) : Int)) ≤ kk s (y + ((d + 1 : Nat) : Int)) := by
        refine h3 (d + 1) fun i hi => ⟨vy i hi, fun h0 => ?_⟩
        rw [← fst_kks hs u0 v0 h0 fun j hj => (ih j (by omega)).2.1]
        exact fu i hi h0
      omega
    · exact ih i g
theorem sandwich_E (hs : Nn s) {x u v y : Int} (x0 : 0 ≤ x) (u0 : 0 ≤ u) (v0 : 0 ≤ v) (h1 : pcS s x u) (h2 : pcS s u v) (h3 : pcS s v y) (he : pcE s x y) : pcE s x u ∧ pcE s u v := by
  refine ⟨fun d hd => ?_, fun d hd => (sandwich hs x0 u0 v0 h1 h2 h3 he d hd d (Nat.le_refl _)).2.1⟩
  -- where x goes on, so does u
  suffices h : ∀ d : Nat, (∀ i : Nat, 0 < i → i < d → fstB s (x + i) = false) → ∀ i : Nat, i ≤ d → kk s (x + i) = kk s (u + i) from h d hd d (Nat.le_refl _)
  intro d
  induction d with
  | zero => intro _ i hi; obtain rfl : i = 0 := (by omega); exact (sandwich hs x0 u0 v0 h1 h2 h3 he 0 (fun i h0 hi => by omega) 0 (Nat.le_refl _)).1
  | succ d ih =>
    intro hd i hi
    have ih' := ih fun i h0 hi => hd i h0 (by omega)
    refine (sandwich hs x0 u0 v0 h1 h2 h3 he (d + 1) (fun j h0 hj => ?_) i hi).1
    rw [← fst_kks hs x0 u0 h0 fun m hm => ih' m (by omega)]
    exact hd j h0 hj
theorem pcE.symm (hs : Nn s) {x y : Int} (x0 : 0 ≤ x) (y0 : 0 ≤ y) (h : pcE s x y) : pcE s y x := by
  intro d hd
  suffices g : ∀ d : Nat, (∀ i : Nat, 0 < i → i < d → fstB s (y + i) = false) → ∀ i : Nat, i ≤ d → kk s (y + i) = kk s (x + i) from g d hd d (Nat.le_refl _)
  intro d
  induction d with
  | zero => intro _ i hi; obtain rfl : i = 0 := (by omega); exact (h 0 fun i h0 hi => by omega).symm
  | succ d ih =>
    intro hd i hi
    have ih' := ih fun i h0 hi => hd i h0 (by omega)
    rcases Nat.lt_or_ge d i with g | g
    · obtain rfl : i = d + 1 := by omega
      refine (h (d + 1) fun j h0 hj => ?_).symm
      rw [← fst_kks hs y0 x0 h0 fun m hm => ih' m (by omega)]
      exact hd j h0 hj
    · exact ih' i g
/-- Not the same piece, in order: the endings are in order. -/
theorem pcS_ord (hs : Nn s) {x y : Int} (x0 : 0 ≤ x) (y0 : 0 ≤ y) (h : pcS s x y) (hne : ¬ pcE s x y) : ordE s x y := by
  have key : ∀ D : Nat, (∀ i : Nat, 0 < i → i < D → fstB s (x + i) = false) → ¬ kk s (x + D) = kk s (y + D) → ∃ d : Nat, (∀ i : Nat, i < d → kk s (x + i) = kk s (y + i)) ∧ kk s (x + d) < kk s (y + d) := by
    intro D
    induction D using Nat.strongRecOn with
    | ind D ih =>
      intro hD hne
      by_cases he : ∀ i : Nat, i < D → kk s (x + i) = kk s (y + i)
      · have := h D fun i hi => ⟨he i hi, fun h0 => hD i h0 hi⟩
        exact ⟨D, he, by omega⟩
      · obtain ⟨i, hi⟩ := Classical.not_forall.1 he
        obtain ⟨hi1, hi2⟩ := Classical.not_imp.1 hi
        exact ih i hi1 (fun j h0 hj => hD j h0 (by omega)) hi2
  obtain ⟨D, hD⟩ := Classical.not_forall.1 hne
  obtain ⟨hD1, hD2⟩ := Classical.not_imp.1 hD
  obtain ⟨d, h1, h2⟩ := key D hD1 hD2
  exact kk_ord hs d x y x0 y0 h1 h2
/-- The next first one behind x, or the end. -/
structure NxI (s : List Int) (x z : Int) : Prop where
  gt : x < z
  le : z ≤ s.length
  no : ∀ q, x < q → q < z → fstB s q = false
  is : z < s.length → fstB s z = true
theorem NxI.one {x z w : Int} (h : NxI s x z) (g : NxI s x w) : z = w := by
  rcases Int.lt_trichotomy z w with a | a | a
  · have h1 := h.is (by have := g.le; omega)
    rw [g.no z h.gt a] at h1
    cases h1
  · exact a
  · have h1 := g.is (by have := h.le; omega)
    rw [h.no w g.gt a] at h1
    cases h1
/-- The same pieces, as the program asks. -/
def Peq (s nx : List Int) (x y : Int) : Prop := rd nx x < s.length ∧ rd nx y < s.length ∧ rd nx x - x = rd nx y - y ∧ ∀ i : Int, 0 ≤ i → i ≤ rd nx x - x → rd s (x + i) = rd s (y + i)
theorem Peq.symm {nx : List Int} {x y : Int} (h : Peq s nx x y) : Peq s nx y x := ⟨h.2.1, h.1, h.2.2.1.symm, fun i h0 h1 => (h.2.2.2 i h0 (by have := h.2.2.1; omega)).symm⟩
theorem Peq.trans {nx : List Int} {x y z : Int} (h : Peq s nx x y) (g : Peq s nx y z) : Peq s nx x z := ⟨h.1, g.2.1, h.2.2.1.trans g.2.2.1, fun i h0 h1 => (h.2.2.2 i h0 h1).trans (g.2.2.2 i h0 (by have := h.2.2.1; omega))⟩
theorem Peq.E {nx : List Int} {x y : Int} (x0 : 0 ≤ x) (y0 : 0 ≤ y) (hx : NxI s x (rd nx x)) (hy : NxI s y (rd nx y)) (h : Peq s nx x y) : pcE s x y := by
  obtain ⟨h1, h2, h3, h4⟩ := h
  have hgt := hx.gt
  have fx := fstB_iff.1 (hx.is h1)
  have fy := fstB_iff.1 (hy.is h2)
  -- the kinds, from behind
  have kinds : ∀ m : Nat, ∀ i : Int, 0 ≤ i → i ≤ rd nx x - x → rd nx x - x - i ≤ m → smB s (x + i) = smB s (y + i) := by
    intro m
    induction m with
    | zero =>
      intro i i0 i1 i2
      obtain rfl : i = rd nx x - x := by omega
      rw [show x + (rd nx x - x) = rd nx x by omega, show y + (rd nx x - x) = rd nx y by omega, fx.2.1, fy.2.1]
    | succ m ih =>
      intro i i0 i1 i2
      rcases Int.lt_or_le i (rd nx x - x) with g | g
      · have e := ih (i + 1) (by omega) (by omega) (by omega)
        have c0 := h4 i i0 i1
        have c1 := h4 (i + 1) (by omega) (by omega)
        have a := smB_step (s := s) (i := x + i) (by omega) (by omega)
        have b := smB_step (s := s) (i := y + i) (by omega) (by omega)
        rw [show x + i + 1 = x + (i + 1) by omega] at a
        rw [show y + i + 1 = y + (i + 1) by omega, ← c0, ← c1, ← e] at b
        exact Bool.eq_iff_iff.2 (a.trans b.symm)
      · exact ih i i0 i1 (by omega)
  intro d hd
  have hdL : (d : Int) ≤ rd nx x - x := by
    rcases Int.lt_or_le (rd nx x - x) d with g | g
    · have := hd (rd nx x - x).toNat (by omega) (by omega)
      rw [show x + (((rd nx x - x).toNat : Nat) : Int) = rd nx x by omega, hx.is h1] at this
      cases this
    · exact g
  rw [kk_lt (by omega), kk_lt (by omega), h4 d (by omega) hdL, kinds (rd nx x - x).toNat d (by omega) hdL (by omega)]
theorem Peq.of_E (hs : Nn s) {nx : List Int} {x y : Int} (x0 : 0 ≤ x) (y0 : 0 ≤ y) (hne : x ≠ y) (hx : NxI s x (rd nx x)) (hy : NxI s y (rd nx y)) (h : pcE s x y) : Peq s nx x y := by
  have hgt := hx.gt
  have hgty := hy.gt
  have hle := hx.le
  have hley := hy.le
  have he : ∀ i : Int, 0 ≤ i → i ≤ rd nx x - x → kk s (x + i) = kk s (y + i) := fun i i0 i1 => by
    have := h i.toNat fun j j0 j1 => hx.no _ (by omega) (by omega)
    rwa [show ((i.toNat : Nat) : Int) = i by omega] at this
  have hL := he (rd nx x - x) (by omega) (Int.le_refl _)
  have hL1 := he (rd nx x - x - 1) (by omega) (by omega)
  rw [show x + (rd nx x - x) = rd nx x by omega] at hL
  have hb := (kk_same hs (by omega) (by omega) hL1 (by omega)).1
  have hnx : rd nx x < s.length := by
    rcases Int.lt_or_le (rd nx x) s.length with g | g
    · exact g
    · have : (s.length : Int) ≤ y + (rd nx x - x) := by
        rcases Int.lt_or_le (y + (rd nx x - x)) s.length with b | b
        · have := (kk_same hs (by omega) (by omega) hL.symm b).1; omega
        · exact b
      omega
  have hyL := (kk_same hs (by omega) (by omega) hL hnx).1
  have fsame : ∀ i : Int, 0 < i → i ≤ rd nx x - x → fstB s (x + i) = fstB s (y + i) := fun i i0 i1 => by
    have := fst_kks hs x0 y0 (i := i.toNat) (by omega) fun j hj => he j (by omega) (by omega)
    rwa [show ((i.toNat : Nat) : Int) = i by omega] at this
  have hny : NxI s y (y + (rd nx x - x)) := ⟨by omega, by omega, fun q h1 h2 => by
    have := fsame (q - y) (by omega) (by omega)
    rw [show y + (q - y) = q by omega] at this
    rw [← this]
    exact hx.no _ (by omega) (by omega), fun _ => by
    rw [← fsame _ (by omega) (Int.le_refl _), show x + (rd nx x - x) = rd nx x by omega]
    exact hx.is hnx⟩
  have e := hy.one hny
  refine ⟨hnx, by omega, by omega, fun i i0 i1 => (kk_same hs (by omega) (by omega) (he i i0 i1) (by omega)).2.1⟩
end
end Go.Pure
/-
  Plain laws: the names of pieces, as the program makes them; what order their endings say. Own work.
-/
namespace Go.Pure
open Go Go.Eng
section
variable {s : List Int} {k : Int}
theorem fstL_inc (s : List Int) : (fstL s).Pairwise (· < ·) := (iota_inc _).sublist List.filter_sublist
theorem fstL_at {a : Int} (h0 : 0 ≤ a) (h : a < (fstL s).length) : (0 ≤ rd (fstL s) a ∧ rd (fstL s) a < s.length) ∧ fstB s (rd (fstL s) a) = true := mem_fstL.1 (rd_mem h0 h)
theorem fstL_ix {x : Int} (h0 : 0 ≤ x) (h : x < s.length) (hf : fstB s x = true) : ∃ a : Int, 0 ≤ a ∧ a < (fstL s).length ∧ rd (fstL s) a = x := by
  obtain ⟨u, hu, e⟩ := List.mem_iff_getElem.1 (mem_fstL.2 ⟨⟨h0, h⟩, hf⟩)
  exact ⟨u, by omega, by omega, by rw [rd_get hu]; exact e⟩
theorem fstL_lt {a b : Int} (h0 : 0 ≤ a) (hab : a < b) (h : b < (fstL s).length) : rd (fstL s) a < rd (fstL s) b := pairwise_rd (fstL_inc s) h0 hab h
theorem fstL_less (hn : 0 < s.length) : (fstL s).length < s.length := by
  have : (fstL s).length ≤ ((iota s.length).erase 0).length := nodup_len (fstL_nodup s) fun x hx => by
    have h := mem_fstL.1 hx
    have h0 := (fstB_iff.1 h.2).1
    exact (List.mem_erase_of_ne (by omega)).2 (mem_iota.2 h.1)
  rw [List.length_erase_of_mem (mem_iota.2 ⟨Int.le_refl 0, by omega⟩), iota_len] at this
  omega
/-- Behind which place the next first one stands. -/
structure NxOk (s nx : List Int) (i : Int) : Prop where
  len : nx.length = s.length
  at_ : ∀ a : Int, 0 ≤ a → a < i → rd nx (rd (fstL s) a) = if a + 1 < (fstL s).length then rd (fstL s) (a + 1) else s.length
  no : ∀ j : Int, 0 ≤ j → j < s.length → fstB s j = false → rd nx j = 0
theorem nx_zero : NxOk s (List.replicate s.length 0) 0 := ⟨by simp, fun a h0 h => by omega, fun j _ _ _ => rd_replicate⟩
theorem NxOk.step {nx nx' : List Int} {i v : Int} (h : NxOk s nx i) (h0 : 0 ≤ i) (hi : i < (fstL s).length) (hv : v = if i + 1 < (fstL s).length then rd (fstL s) (i + 1) else s.length) (hl : nx'.length = s.length)
    (he : ∀ j : Int, 0 ≤ j → rd nx' j = if j = rd (fstL s) i then v else rd nx j) : NxOk s nx' (i + 1) := by
  have hf := fstL_at h0 hi
  refine ⟨hl, fun a a0 a1 => ?_, fun j j0 j1 hj => ?_⟩
  · have ha := fstL_at (s := s) a0 (by omega)
    rw [he _ ha.1.1]
    by_cases e : a = i
    · subst e; rw [if_pos rfl, hv]
    · rw [if_neg, h.at_ a a0 (by omega)]
      have := fstL_lt (s := s) a0 (by omega : a < i) hi
      omega
  · rw [he j j0, if_neg, h.no j j0 j1 hj]
    intro e
    rw [e, hf.2] at hj
    cases hj
theorem NxOk.step1 {nx : List Int} {i : Int} (h : NxOk s nx i) (h0 : 0 ≤ i) (hi : i < (fstL s).length) (hc : ¬ i + 1 < (fstL s).length) : NxOk s (upd nx (rd (fstL s) i) s.length) (i + 1) := by
  have hf := fstL_at h0 hi
  exact h.step h0 hi (by rw [if_neg hc]) (by rw [upd_length]; exact h.len) fun j j0 => rd_upd hf.1.1 j0 (by rw [h.len]; exact hf.1.2)
theorem NxOk.step2 {nx : List Int} {i : Int} {w : Int} (h : NxOk s nx i) (h0 : 0 ≤ i) (hi : i < (fstL s).length) (hc : i + 1 < (fstL s).length) : NxOk s (upd (upd nx (rd (fstL s) i) w) (rd (fstL s) i) (rd (fstL s) (i + 1))) (i + 1) := by
  have hf := fstL_at h0 hi
  refine h.step h0 hi (by rw [if_pos hc]) (by rw [upd_length, upd_length]; exact h.len) fun j j0 => ?_
  rw [rd_upd hf.1.1 j0 (by rw [upd_length, h.len]; exact hf.1.2)]
  split
  · rfl
  · rename_i e
    rw [rd_upd hf.1.1 j0 (by rw [h.len]; exact hf.1.2), if_neg e]
theorem NxOk.nx {nx : List Int} (h : NxOk s nx (fstL s).length) {x : Int} (h0 : 0 ≤ x) (hx : x < s.length) (hf : fstB s x = true) : NxI s x (rd nx x) := by
  obtain ⟨a, a0, a1, rfl⟩ := fstL_ix h0 hx hf
  rw [h.at_ a a0 a1]
  split
  · rename_i e
    have g := fstL_at (s := s) (a := a + 1) (by omega) e
    refine ⟨fstL_lt a0 (by omega) e, by omega, fun q h1 h2 => ?_, fun _ => g.2⟩
    cases hq : fstB s q with
    | false => rfl
    | true =>
      obtain ⟨b, b0, b1, rfl⟩ := fstL_ix (s := s) (x := q) (by omega) (by omega) hq
      exfalso
      rcases Int.lt_trichotomy b a with d | d | d
      · have := fstL_lt (s := s) b0 d a1; omega
      · subst d; omega
      · rcases Int.lt_or_le (a + 1) b with d2 | d2
        · have := fstL_lt (s := s) (a := a + 1) (by omega) d2 b1; omega
        · obtain rfl : b = a + 1 := by omega
          omega
  · rename_i e
    refine ⟨hx, Int.le_refl _, fun q h1 h2 => ?_, fun h => by omega⟩
    cases hq : fstB s q with
    | false => rfl
    | true =>
      obtain ⟨b, b0, b1, rfl⟩ := fstL_ix (s := s) (x := q) (by omega) (by omega) hq
      exfalso
      rcases Int.lt_trichotomy b a with d | d | d
      · have := fstL_lt (s := s) b0 d a1; omega
      · subst d; omega
      · omega
theorem NxOk.zero {nx : List Int} (h : NxOk s nx (fstL s).length) {x : Int} (h0 : 0 ≤ x) (hx : x < s.length) : rd nx x = 0 ↔ fstB s x = false := by
  cases hf : fstB s x with
  | false => exact ⟨fun _ => rfl, fun _ => h.no x h0 hx hf⟩
  | true => exact ⟨fun e => by have := (h.nx h0 hx hf).gt; omega, fun e => by cases e⟩
/-- Names given to the places read so far. -/
structure NamI (s ord nx : List Int) (t : Int) (nm : List Int) (n last : Int) : Prop where
  len : nm.length = s.length
  bd : 0 ≤ n ∧ n ≤ t
  start : last = -1 → n = 0 ∧ ∀ q : Int, 0 ≤ q → q < t → fstB s (rd ord q) = false
  last_ : last = -1 ∨ ∃ q : Int, 0 ≤ q ∧ q < t ∧ rd ord q = last ∧ fstB s last = true ∧ rd nm last = n ∧ ∀ r : Int, q < r → r < t → fstB s (rd ord r) = false
  rng : ∀ q : Int, 0 ≤ q → q < t → fstB s (rd ord q) = true → 0 ≤ rd nm (rd ord q) ∧ rd nm (rd ord q) ≤ n
  pair : ∀ q r : Int, 0 ≤ q → q < r → r < t → fstB s (rd ord q) = true → fstB s (rd ord r) = true → rd nm (rd ord q) ≤ rd nm (rd ord r) ∧ (rd nm (rd ord q) = rd nm (rd ord r) → Peq s nx (rd ord q) (rd ord r)) ∧ (rd nm (rd ord q) < rd nm (rd ord r) → ¬ pcE s (rd ord q) (rd ord r))
variable {ord nx nm : List Int} {t n last : Int}
theorem nam_zero : NamI s ord nx 0 (List.replicate s.length 0) 0 (-1) := ⟨by simp, by omega, fun _ => ⟨rfl, fun q h0 h => by omega⟩, .inl rfl, fun q h0 h => by omega, fun q r h0 h h' => by omega⟩
theorem NamI.skip (h : NamI s ord nx t nm n last) (hf : fstB s (rd ord t) = false) : NamI s ord nx (t + 1) nm n last := by
  have hno : ∀ {q : Int}, q < t + 1 → fstB s (rd ord q) = true → q < t := fun {q} h1 h2 => by
    rcases Int.lt_or_le q t with a | a
    · exact a
    · obtain rfl : q = t := by omega
      rw [hf] at h2; cases h2
  refine ⟨h.len, by have := h.bd; omega, fun e => ⟨(h.start e).1, fun q h0 h1 => ?_⟩, ?_, fun q h0 h1 h2 => h.rng q h0 (hno h1 h2) h2, fun q r h0 h1 h2 f1 f2 => h.pair q r h0 h1 (hno h2 f2) f1 f2⟩
  · rcases Int.lt_or_le q t with a | a
    · exact (h.start e).2 q h0 a
    · obtain rfl : q = t := by omega
      exact hf
  · rcases h.last_ with e | ⟨q, h1, h2, h3, h4, h5, h6⟩
    · exact .inl e
    · refine .inr ⟨q, h1, by omega, h3, h4, h5, fun r r0 r1 => ?_⟩
      rcases Int.lt_or_le r t with a | a
      · exact h6 r r0 a
      · obtain rfl : r = t := by omega
        exact hf
theorem NamI.last_in (h : NamI s ord nx t nm n last) (hp : ord.Perm (iota s.length)) (ht : t ≤ s.length) : last = -1 ∨ ((0 ≤ last ∧ last < s.length) ∧ fstB s last = true) := by
  rcases h.last_ with e | ⟨q, h1, h2, h3, h4, _⟩
  · exact .inl e
  · rw [← h3]
    have hl := hp.length_eq
    rw [iota_len] at hl
    exact .inr ⟨mem_iota.1 (hp.subset (rd_mem h1 (by omega))), by rw [h3]; exact h4⟩
theorem NamI.step (hs : Nn s) (h : NamI s ord nx t nm n last) (hp : ord.Perm (iota s.length)) (ho : ord.Pairwise (pcS s)) (hx : NxOk s nx (fstL s).length) (t0 : 0 ≤ t) (ht : t < s.length) (hf : fstB s (rd ord t) = true) {n' : Int}
    (hn : (last = -1 ∧ n' = n) ∨ (0 ≤ last ∧ Peq s nx last (rd ord t) ∧ n' = n) ∨ (0 ≤ last ∧ ¬ Peq s nx last (rd ord t) ∧ n' = n + 1)) : NamI s ord nx (t + 1) (upd nm (rd ord t) n') n' (rd ord t) := by
  have hl : ord.length = s.length := by rw [hp.length_eq, iota_len]
  have hnd : ord.Nodup := hp.symm.nodup (iota_nodup _)
  have hin : ∀ q : Int, 0 ≤ q → q < s.length → 0 ≤ rd ord q ∧ rd ord q < s.length := fun q q0 q1 => mem_iota.1 (hp.subset (rd_mem q0 (by omega)))
  have ht' := hin t t0 ht
  have hrd : ∀ q : Int, 0 ≤ q → q < t → rd (upd nm (rd ord t) n') (rd ord q) = rd nm (rd ord q) := fun q q0 q1 => by
    have hq := hin q q0 (by omega)
    rw [rd_upd ht'.1 hq.1 (by rw [h.len]; exact ht'.2), if_neg]
    intro e
    have := rd_inj hnd q0 (by omega) t0 (by omega) e
    omega
  have hrt : rd (upd nm (rd ord t) n') (rd ord t) = n' := by rw [rd_upd ht'.1 ht'.1 (by rw [h.len]; exact ht'.2), if_pos rfl]
  have hbd := h.bd
  have hnn : n ≤ n' := by rcases hn with a | a | a <;> omega
  refine ⟨by rw [upd_length]; exact h.len, by rcases hn with a | a | a <;> omega, fun e => by omega, .inr ⟨t, t0, by omega, rfl, hf, hrt, fun r r0 r1 => by omega⟩, fun q q0 q1 f => ?_, fun q r q0 qr r1 f1 f2 => ?_⟩
  · rcases Int.lt_or_le q t with a | a
    · rw [hrd q q0 a]
      have := h.rng q q0 a f
      omega
    · obtain rfl : q = t := by omega
      rw [hrt]; omega
  · rcases Int.lt_or_le r t with a | a
    · rw [hrd q q0 (by omega), hrd r (by omega) a]
      exact h.pair q r q0 qr a f1 f2
    · obtain rfl : r = t := by omega
      rw [hrd q q0 qr, hrt]
      have hq := hin q q0 (by omega)
      have hg := h.rng q q0 qr f1
      rcases h.last_ with e | ⟨z, z0, z1, z2, z3, z4, z5⟩
      · have := (h.start e).2 q q0 qr
        rw [f1] at this; cases this
      · have hqz : q ≤ z := by
          rcases Int.lt_or_le z q with b | b
          · have := z5 q b qr
            rw [f1] at this; cases this
          · exact b
        have hz := hin z z0 (by omega)
        have hzr : pcS s (rd ord z) (rd ord r) := pairwise_rd ho z0 z1 (by omega)
        have hzx := hx.nx hz.1 hz.2 (by rw [z2]; exact z3)
        have hrx := hx.nx ht'.1 ht'.2 hf
        have hqx := hx.nx hq.1 hq.2 f1
        have hne : rd ord z ≠ rd ord r := fun e => by have := rd_inj hnd z0 (by omega) t0 (by omega) e; omega
        -- what is known of the last one and the new one
        have hlast : (n' = n → Peq s nx (rd ord z) (rd ord r)) ∧ (n < n' → ¬ Peq s nx (rd ord z) (rd ord r)) := by
          rw [z2]
          rcases hn with b | b | b
          · omega
          · exact ⟨fun _ => b.2.1, fun _ => by omega⟩
          · exact ⟨fun _ => by omega, fun _ => b.2.1⟩
        have hE : pcE s (rd ord q) (rd ord r) → pcE s (rd ord z) (rd ord r) ∧ (q < z → pcE s (rd ord q) (rd ord z)) := fun he => by
          rcases Int.lt_or_le q z with b | b
          · have := sandwich_E hs (u := rd ord z) (v := rd ord r) (y := rd ord r) hq.1 hz.1 ht'.1 (pairwise_rd ho q0 b (by omega)) hzr (fun d hd => Int.le_refl _) he
            exact ⟨this.2, fun _ => this.1⟩
          · obtain rfl : q = z := by omega
            exact ⟨he, fun h => by omega⟩
        rcases Int.lt_or_le q z with b | b
        · have hpr := h.pair q z q0 b z1 f1 (by rw [z2]; exact z3)
          have ez : rd nm (rd ord z) = n := by rw [z2]; exact z4
          rw [ez] at hpr
          refine ⟨by omega, fun e => (hpr.2.1 (by omega)).trans (hlast.1 (by omega)), fun e he => ?_⟩
          rcases Int.lt_or_le n n' with g | g
          · exact hlast.2 g (Peq.of_E hs hz.1 ht'.1 hne hzx hrx (hE he).1)
          · exact hpr.2.2 (by omega) ((hE he).2 b)
        · obtain rfl : q = z := by omega
          have ez : rd nm (rd ord q) = n := by rw [z2]; exact z4
          rw [ez]
          refine ⟨hnn, fun e => hlast.1 e.symm, fun e he => hlast.2 e (Peq.of_E hs hz.1 ht'.1 hne hzx hrx he)⟩
/-- The order of the names' endings is the order of the endings of the first ones. -/
theorem names_ord (hs : Nn s) (h : NamI s ord nx s.length nm n last) (hp : ord.Perm (iota s.length)) (ho : ord.Pairwise (pcS s)) (hx : NxOk s nx (fstL s).length) : ∀ (m : Nat) (a b : Int), (fstL s).length - a ≤ m → 0 ≤ a → a < (fstL s).length → 0 ≤ b → b < (fstL s).length →
    ordE ((fstL s).map (rd nm)) a b → ordE s (rd (fstL s) a) (rd (fstL s) b)
  | 0, a, b, hm, a0, a1, _, _, _ => by omega
  | m + 1, a, b, hm, a0, a1, b0, b1, hab => by
    have hl : ord.length = s.length := by rw [hp.length_eq, iota_len]
    have hml : ((fstL s).map (rd nm)).length = (fstL s).length := by rw [List.length_map]
    have hnm : ∀ c : Int, 0 ≤ c → c < (fstL s).length → rd ((fstL s).map (rd nm)) c = rd nm (rd (fstL s) c) := fun c c0 c1 => by
      rw [rd_getI c0 (by omega), List.getElem_map, ← rd_getI c0 c1]
    have hix : ∀ c : Int, 0 ≤ c → c < (fstL s).length → ∃ q : Int, 0 ≤ q ∧ q < s.length ∧ rd ord q = rd (fstL s) c := fun c c0 c1 => by
      have hc := fstL_at (s := s) c0 c1
      obtain ⟨u, hu, e⟩ := List.mem_iff_getElem.1 (hp.symm.subset (mem_iota.2 hc.1))
      exact ⟨u, by omega, by omega, by rw [rd_get hu]; exact e⟩
    have hne : a ≠ b := fun e => by rw [e] at hab; exact ordE_asymm _ _ hab hab
    have ha := fstL_at (s := s) a0 a1
    have hb := fstL_at (s := s) b0 b1
    have hxy : rd (fstL s) a ≠ rd (fstL s) b := fun e => hne (rd_inj (fstL_nodup s) a0 a1 b0 b1 e)
    obtain ⟨q, q0, q1, eq⟩ := hix a a0 a1
    obtain ⟨r, r0, r1, er⟩ := hix b b0 b1
    have hqr : q ≠ r := fun e => hxy (by rw [← eq, ← er, e])
    rw [ord_cons a0 (by omega) b0 (by omega), hnm a a0 a1, hnm b b0 b1] at hab
    have hfq : fstB s (rd ord q) = true := by rw [eq]; exact ha.2
    have hfr : fstB s (rd ord r) = true := by rw [er]; exact hb.2
    rcases hab with hlt | ⟨he, hrest⟩
    · rcases Int.lt_or_le q r with c | c
      · have hpr := h.pair q r q0 c r1 hfq hfr
        rw [eq, er] at hpr
        have := pairwise_rd ho q0 c (by omega)
        rw [eq, er] at this
        exact pcS_ord hs ha.1.1 hb.1.1 this (hpr.2.2 hlt)
      · have hpr := h.pair r q r0 (by omega) q1 hfr hfq
        rw [eq, er] at hpr
        omega
    · have hpe : Peq s nx (rd (fstL s) a) (rd (fstL s) b) := by
        rcases Int.lt_or_le q r with c | c
        · have hpr := h.pair q r q0 c r1 hfq hfr
          rw [eq, er] at hpr
          exact hpr.2.1 he
        · have hpr := h.pair r q r0 (by omega) q1 hfr hfq
          rw [eq, er] at hpr
          exact (hpr.2.1 he.symm).symm
      obtain ⟨p1, p2, p3, p4⟩ := hpe
      have gx := (hx.nx ha.1.1 ha.1.2 ha.2).gt
      have ea := hx.at_ a a0 a1
      have eb := hx.at_ b b0 b1
      have hac : a + 1 < (fstL s).length := by
        rcases Int.lt_or_le (a + 1) (fstL s).length with c | c
        · exact c
        · rw [if_neg (by omega)] at ea; omega
      have hbc : b + 1 < (fstL s).length := by
        rcases Int.lt_or_le (b + 1) (fstL s).length with c | c
        · exact c
        · rw [if_neg (by omega)] at eb; omega
      rw [if_pos hac] at ea
      rw [if_pos hbc] at eb
      have ih := names_ord hs h hp ho hx m (a + 1) (b + 1) (by omega) (by omega) hac (by omega) hbc (ordE_cmp.1 hrest)
      rw [← ea, ← eb] at ih
      refine chars_back (rd nx (rd (fstL s) a) - rd (fstL s) a).toNat _ _ ha.1.1 hb.1.1 (by omega) (by omega) (fun i hi => p4 i (by omega) (by omega)) ?_
      rwa [show rd (fstL s) a + (((rd nx (rd (fstL s) a) - rd (fstL s) a).toNat : Nat) : Int) = rd nx (rd (fstL s) a) by omega, show rd (fstL s) b + (((rd nx (rd (fstL s) a) - rd (fstL s) a).toNat : Nat) : Int) = rd nx (rd (fstL s) b) by omega]
/-- All names lie where they may. -/
theorem names_in (h : NamI s ord nx s.length nm n last) (hp : ord.Perm (iota s.length)) : ∀ x ∈ (fstL s).map (rd nm), 0 ≤ x ∧ x < n + 1 := by
  intro x hx
  obtain ⟨y, hy, rfl⟩ := List.mem_map.1 hx
  obtain ⟨hy1, hy2⟩ := mem_fstL.1 hy
  have hl : ord.length = s.length := by rw [hp.length_eq, iota_len]
  obtain ⟨u, hu, e⟩ := List.mem_iff_getElem.1 (hp.symm.subset (mem_iota.2 hy1))
  have := h.rng u (by omega) (by omega) (by rw [rd_get hu, e]; exact hy2)
  rw [rd_get hu, e] at this
  omega
/-- The first ones in the order of the names' endings are in order. -/
theorem right_ok (hs : Nn s) (h : NamI s ord nx s.length nm n last) (hp : ord.Perm (iota s.length)) (ho : ord.Pairwise (pcS s)) (hx : NxOk s nx (fstL s).length) {o : List Int} (op : o.Perm (iota ((fstL s).map (rd nm)).length)) (oo : o.Pairwise (ordE ((fstL s).map (rd nm)))) :
    (o.map (rd (fstL s))).Perm (fstL s) ∧ (o.map (rd (fstL s))).Pairwise (ordE s) := by
  rw [List.length_map] at op
  refine ⟨?_, ?_⟩
  · have := op.map (rd (fstL s))
    rwa [map_iota_rd] at this
  · refine List.pairwise_map.2 (List.Pairwise.imp_of_mem (fun {a b} ha hb hab => ?_) oo)
    have h1 := mem_iota.1 (op.subset ha)
    have h2 := mem_iota.1 (op.subset hb)
    exact names_ord hs h hp ho hx (fstL s).length a b (by omega) h1.1 h1.2 h2.1 h2.2 hab
theorem rd_dt {l : List Int} {x i : Int} {m : Nat} (x0 : 0 ≤ x) (h0 : 0 ≤ i) (h : i < m) : rd ((l.drop x.toNat).take m) i = rd l (x + i) := by
  unfold rd
  rw [List.getD_eq_getElem?_getD, List.getD_eq_getElem?_getD, List.getElem?_take_of_lt (by omega), List.getElem?_drop, show x.toNat + i.toNat = (x + i).toNat by omega]
/-- The program's test of two pieces. -/
theorem piece_eq {x y : Int} (x0 : 0 ≤ x) (y0 : 0 ≤ y) (hx : x < rd nx x) (hxl : rd nx x < s.length) (hy : y < rd nx y) (hyl : rd nx y < s.length) :
    (s.drop x.toNat).take ((min (rd nx x + 1) ((s.length : Nat) : Int)).toNat - x.toNat) = (s.drop y.toNat).take ((min (rd nx y + 1) ((s.length : Nat) : Int)).toNat - y.toNat) ↔ Peq s nx x y := by
  have lx : ((s.drop x.toNat).take ((min (rd nx x + 1) ((s.length : Nat) : Int)).toNat - x.toNat)).length = (rd nx x - x + 1).toNat := by rw [List.length_take, List.length_drop]; omega
  have ly : ((s.drop y.toNat).take ((min (rd nx y + 1) ((s.length : Nat) : Int)).toNat - y.toNat)).length = (rd nx y - y + 1).toNat := by rw [List.length_take, List.length_drop]; omega
  constructor
  · intro h
    have hl := congrArg List.length h
    rw [lx, ly] at hl
    refine ⟨hxl, hyl, by omega, fun i i0 i1 => ?_⟩
    have : rd ((s.drop x.toNat).take ((min (rd nx x + 1) ((s.length : Nat) : Int)).toNat - x.toNat)) i = rd ((s.drop y.toNat).take ((min (rd nx y + 1) ((s.length : Nat) : Int)).toNat - y.toNat)) i := by rw [h]
    rwa [rd_dt x0 i0 (by omega), rd_dt y0 i0 (by omega)] at this
  · rintro ⟨_, _, h3, h4⟩
    refine list_ext_rd (by rw [lx, ly]; omega) fun i i0 i1 => ?_
    rw [lx] at i1
    rw [rd_dt x0 i0 (by omega), rd_dt y0 i0 (by omega)]
    exact h4 i i0 (by omega)
theorem pw_short {r : Int → Int → Prop} : ∀ {l : List Int}, l.length < 2 → l.Pairwise r
  | [], _ => .nil
  | [_], _ => List.pairwise_singleton _ _
  | _ :: _ :: _, h => by simp at h; omega
/-- The program's test, put as what is to be shown of the new name. -/
theorem name_new {x y : Int} (hl : 0 ≤ x → x < s.length ∧ x < rd nx x ∧ rd nx x ≤ s.length) (y0 : 0 ≤ y) (hy : y < rd nx y) (hyl : rd nx y ≤ s.length)
    (h : 0 ≤ x ∧ ((rd nx y = ((s.length : Nat) : Int) ∨ rd nx x = ((s.length : Nat) : Int)) ∨ ¬ (s.drop x.toNat).take ((min (rd nx x + 1) ((s.length : Nat) : Int)).toNat - x.toNat) = (s.drop y.toNat).take ((min (rd nx y + 1) ((s.length : Nat) : Int)).toNat - y.toNat))) :
    (x = -1 ∧ n + 1 = n) ∨ (0 ≤ x ∧ Peq s nx x y ∧ n + 1 = n) ∨ (0 ≤ x ∧ ¬ Peq s nx x y ∧ n + 1 = n + 1) := by
  refine .inr (.inr ⟨h.1, fun hp => ?_, rfl⟩)
  have a := hl h.1
  rcases h.2 with g | g
  · have h1 := hp.1
    have h2 := hp.2.1
    omega
  · exact g ((piece_eq h.1 y0 a.2.1 hp.1 hy hp.2.1).2 hp)
theorem name_old {x y : Int} (hx : -1 ≤ x) (hl : 0 ≤ x → x < s.length ∧ x < rd nx x ∧ rd nx x ≤ s.length) (y0 : 0 ≤ y) (hy : y < rd nx y) (hyl : rd nx y ≤ s.length)
    (h : ¬ (0 ≤ x ∧ ((rd nx y = ((s.length : Nat) : Int) ∨ rd nx x = ((s.length : Nat) : Int)) ∨ ¬ (s.drop x.toNat).take ((min (rd nx x + 1) ((s.length : Nat) : Int)).toNat - x.toNat) = (s.drop y.toNat).take ((min (rd nx y + 1) ((s.length : Nat) : Int)).toNat - y.toNat)))) :
    (x = -1 ∧ n = n) ∨ (0 ≤ x ∧ Peq s nx x y ∧ n = n) ∨ (0 ≤ x ∧ ¬ Peq s nx x y ∧ n = n + 1) := by
  rcases Int.lt_or_le x 0 with g | g
  · exact .inl ⟨by omega, rfl⟩
  · have a := hl g
    have h1 : ¬ rd nx y = ((s.length : Nat) : Int) := fun e => h ⟨g, .inl (.inl e)⟩
    have h2 : ¬ rd nx x = ((s.length : Nat) : Int) := fun e => h ⟨g, .inl (.inr e)⟩
    have h3 := Decidable.not_not.1 fun e => h ⟨g, .inr e⟩
    exact .inr (.inl ⟨g, (piece_eq g y0 a.2.1 (by omega) hy (by omega)).1 h3, rfl⟩)
end
end Go.Pure
