/- Several texts of our own in one: Q21, Q22, Q23, Q24, Q25. -/
import Derived.Test.YtdfcnalkdlifiaaQ20
import Derived.Test.YtdfcnalkdlifiaaE20
/-
  Plain laws: small and large endings; buckets. Own work.
-/
namespace Go.Pure
open Go Go.Eng
/-- Is the ending at i less than the next one? -/
def smB (s : List Int) (i : Int) : Bool := decide (cmpL (s.drop i.toNat) (s.drop (i + 1).toNat) < 0)
theorem cmpL_cons_neg {a b : Int} {u v : List Int} : cmpL (a :: u) (b :: v) < 0 ↔ a < b ∨ a = b ∧ cmpL u v < 0 := by
  rw [cmpL]
  rcases Int.lt_trichotomy a b with c | c | c
  · rw [if_pos c]; exact ⟨fun _ => .inl c, fun _ => by omega⟩
  · subst c
    rw [if_neg (by omega), if_neg (by omega)]
    exact ⟨fun h => .inr ⟨rfl, h⟩, fun h => h.elim (fun h => by omega) fun h => h.2⟩
  · rw [if_neg (by omega), if_pos c]
    exact ⟨fun h => by omega, fun h => h.elim (fun h => by omega) fun h => by omega⟩
theorem drop_rd {s : List Int} {i : Int} (h0 : 0 ≤ i) (h : i < s.length) : s.drop i.toNat = rd s i :: s.drop (i + 1).toNat := rd_drop_cons h0 h
theorem drop_end {s : List Int} {i : Int} (h : (s.length : Int) ≤ i) : s.drop i.toNat = [] := List.drop_of_length_le (by omega)
/-- Two endings compared: by their first numbers, then by what comes behind. -/
theorem ord_cons {s : List Int} {p q : Int} (p0 : 0 ≤ p) (hp : p < s.length) (q0 : 0 ≤ q) (hq : q < s.length) : ordE s p q ↔ rd s p < rd s q ∨ rd s p = rd s q ∧ cmpL (s.drop (p + 1).toNat) (s.drop (q + 1).toNat) < 0 := by
  rw [← ordE_cmp, drop_rd p0 hp, drop_rd q0 hq, cmpL_cons_neg]
theorem smB_last {s : List Int} {i : Int} (h0 : 0 ≤ i) (h : (s.length : Int) ≤ i + 1) : smB s i = false := by
  unfold smB
  rw [drop_end h, decide_eq_false_iff_not]
  by_cases a : i < s.length
  · rw [drop_rd h0 a]; simp [cmpL]
  · rw [drop_end (by omega)]; simp [cmpL]
theorem smB_step {s : List Int} {i : Int} (h0 : 0 ≤ i) (h : i + 1 < s.length) : smB s i = true ↔ rd s i < rd s (i + 1) ∨ rd s i = rd s (i + 1) ∧ smB s (i + 1) = true := by
  unfold smB
  rw [decide_eq_true_iff, decide_eq_true_iff, drop_rd h0 (by omega), drop_rd (s := s) (i := i + 1) (by omega) h, cmpL_cons_neg]
def isL (s : List Int) (p : Int) : Prop := (0 ≤ p ∧ p < s.length) ∧ smB s p = false
def isS (s : List Int) (p : Int) : Prop := (0 ≤ p ∧ p < s.length) ∧ smB s p = true
theorem isL_or_isS {s : List Int} {p : Int} (h : 0 ≤ p ∧ p < s.length) : isL s p ∨ isS s p := by
  cases e : smB s p with
  | false => exact .inl ⟨h, e⟩
  | true => exact .inr ⟨h, e⟩
theorem isL.not_S {s : List Int} {p : Int} (h : isL s p) : ¬ isS s p := fun h' => by
  have a := h'.2
  rw [h.2] at a
  cases a
theorem isL.next {s : List Int} {p : Int} (h : isL s p) (hp : p + 1 < s.length) : rd s (p + 1) ≤ rd s p ∧ (rd s p = rd s (p + 1) → isL s (p + 1)) := by
  have hn : ¬ smB s p = true := by rw [h.2]; simp
  rw [smB_step h.1.1 hp] at hn
  refine ⟨Int.not_lt.1 fun hlt => hn (.inl hlt), fun e => ⟨⟨by have := h.1.1; omega, hp⟩, ?_⟩⟩
  cases e2 : smB s (p + 1) with
  | false => rfl
  | true => exact absurd (.inr ⟨e, e2⟩) hn
theorem isS.next {s : List Int} {p : Int} (h : isS s p) : p + 1 < s.length ∧ rd s p ≤ rd s (p + 1) ∧ (rd s p = rd s (p + 1) → isS s (p + 1)) := by
  have hp : p + 1 < s.length := by
    rcases Int.lt_or_le (p + 1) s.length with a | a
    · exact a
    · have := smB_last h.1.1 a
      rw [h.2] at this
      cases this
  have hs := (smB_step h.1.1 hp).1 h.2
  have h0 := h.1.1
  refine ⟨hp, by omega, fun e => ⟨⟨by omega, hp⟩, ?_⟩⟩
  rcases hs with a | a
  · omega
  · exact a.2
/-- In one bucket the large ones come first. -/
theorem large_small {s : List Int} : ∀ (m : Nat) (p q : Int), s.length - p ≤ m → isL s p → isS s q → rd s p = rd s q → ordE s p q
  | 0, p, q, hm, hp, _, _ => by have := hp.1; omega
  | m + 1, p, q, hm, hp, hq, e => by
    rw [ord_cons hp.1.1 hp.1.2 hq.1.1 hq.1.2]
    refine .inr ⟨e, ?_⟩
    obtain ⟨hq1, hq2, hq3⟩ := hq.next
    have q0 := hq.1.1
    have p0 := hp.1.1
    rcases Int.lt_or_le (p + 1) s.length with a | a
    · obtain ⟨hp2, hp3⟩ := hp.next a
      rw [ordE_cmp (s := s), ord_cons (by omega) a (by omega) hq1]
      rcases Int.lt_or_le (rd s (p + 1)) (rd s (q + 1)) with b | b
      · exact .inl b
      · have e1 : rd s p = rd s (p + 1) := by omega
        have e2 : rd s q = rd s (q + 1) := by omega
        have := large_small m (p + 1) (q + 1) (by omega) (hp3 e1) (hq3 e2) (by omega)
        rw [ord_cons (by omega) a (by omega) hq1] at this
        exact this
    · rw [drop_end a, drop_rd (by omega) hq1]
      simp [cmpL]
theorem ls_ord {s : List Int} {p q : Int} (hp : isL s p) (hq : isS s q) (e : rd s p = rd s q) : ordE s p q := large_small (s.length - p).toNat p q (by omega) hp hq e
/-- What is ahead of endings in order. -/
theorem ord_back {s : List Int} {p q : Int} (p0 : 0 ≤ p) (hp : p + 1 < s.length) (q0 : 0 ≤ q) (hq : q + 1 < s.length) (e : rd s p = rd s q) (h : ordE s (p + 1) (q + 1)) : ordE s p q := by
  rw [ord_cons p0 (by omega) q0 (by omega)]
  exact .inr ⟨e, ordE_cmp.2 h⟩
theorem ord_char {s : List Int} {p q : Int} (hp : 0 ≤ p ∧ p < s.length) (hq : 0 ≤ q ∧ q < s.length) (h : rd s p < rd s q) : ordE s p q := by
  rw [ord_cons hp.1 hp.2 hq.1 hq.2]
  exact .inl h
theorem ord_last {s : List Int} {q : Int} (hn : 0 < s.length) (q0 : 0 ≤ q) (hq : q + 1 < s.length) (e : rd s (s.length - 1) = rd s q) : ordE s (s.length - 1) q := by
  rw [ord_cons (by omega) (by omega) q0 (by omega)]
  refine .inr ⟨e, ?_⟩
  rw [drop_end (by omega), drop_rd (by omega) hq]
  simp [cmpL]
/-- The first small ones. -/
def fstB (s : List Int) (i : Int) : Bool := decide (0 < i) && smB s i && !smB s (i - 1)
theorem fstB_iff {s : List Int} {i : Int} : fstB s i = true ↔ 0 < i ∧ smB s i = true ∧ smB s (i - 1) = false := by
  unfold fstB
  rw [Bool.and_eq_true, Bool.and_eq_true, decide_eq_true_iff]
  simp only [Bool.not_eq_true', and_assoc]
def fstL (s : List Int) : List Int := (iota s.length).filter fun i => fstB s i
theorem mem_fstL {s : List Int} {i : Int} : i ∈ fstL s ↔ (0 ≤ i ∧ i < s.length) ∧ fstB s i = true := by
  unfold fstL
  rw [List.mem_filter, mem_iota]
theorem fstL_nodup (s : List Int) : (fstL s).Nodup := (iota_nodup _).sublist List.filter_sublist
/-! counting -/
theorem nodup_len {α : Type} [DecidableEq α] : ∀ {l m : List α}, l.Nodup → (∀ x ∈ l, x ∈ m) → l.length ≤ m.length
  | [], _, _, _ => Nat.zero_le _
  | a :: l, m, hd, h => by
    obtain ⟨h1, h2⟩ := List.nodup_cons.1 hd
    have ha := h a (by simp)
    have := nodup_len (l := l) (m := m.erase a) h2 fun x hx => by
      have hxa : x ≠ a := fun e => h1 (e ▸ hx)
      exact (List.mem_erase_of_ne hxa).2 (h x (List.mem_cons_of_mem _ hx))
    rw [List.length_erase_of_mem ha] at this
    have hp := List.length_pos_of_mem ha
    simp only [List.length_cons]
    omega
theorem perm_all {α : Type} [DecidableEq α] : ∀ {l m : List α}, l.Nodup → (∀ x ∈ l, x ∈ m) → m.length ≤ l.length → l.Perm m
  | [], m, _, _, h => by
    have : m = [] := List.eq_nil_of_length_eq_zero (by simpa using h)
    rw [this]
  | a :: l, m, hd, h, hl => by
    obtain ⟨h1, h2⟩ := List.nodup_cons.1 hd
    have ha := h a (by simp)
    have hp := List.length_pos_of_mem ha
    have := perm_all (l := l) (m := m.erase a) h2 (fun x hx => by
      have hxa : x ≠ a := fun e => h1 (e ▸ hx)
      exact (List.mem_erase_of_ne hxa).2 (h x (List.mem_cons_of_mem _ hx))) (by
      rw [List.length_erase_of_mem ha]
      simp only [List.length_cons] at hl
      omega)
    exact (this.cons a).trans (List.perm_cons_erase ha).symm
/-- A stretch of a row. -/
def seg (row : List Int) (a b : Int) : List Int := (List.range (b - a).toNat).map fun t : Nat => rd row (a + t)
theorem seg_len (row : List Int) (a b : Int) : (seg row a b).length = (b - a).toNat := by simp [seg]
theorem mem_seg {row : List Int} {a b x : Int} : x ∈ seg row a b ↔ ∃ q, a ≤ q ∧ q < b ∧ rd row q = x := by
  unfold seg
  rw [List.mem_map]
  constructor
  · rintro ⟨t, ht, rfl⟩
    have := List.mem_range.1 ht
    exact ⟨a + t, by omega, by omega, rfl⟩
  · rintro ⟨q, h1, h2, rfl⟩
    exact ⟨(q - a).toNat, List.mem_range.2 (by omega), by rw [show a + ((q - a).toNat : Int) = q by omega]⟩
/-- No number that is one stands twice. -/
def Once (row : List Int) : Prop := ∀ q r : Int, 0 ≤ q → q < row.length → 0 ≤ r → r < row.length → 0 ≤ rd row q → rd row q = rd row r → q = r
theorem seg_nodup {row : List Int} (h : Once row) {a b : Int} (ha : 0 ≤ a) (hb : b ≤ row.length) (hp : ∀ q, a ≤ q → q < b → 0 ≤ rd row q) : (seg row a b).Nodup := by
  unfold seg
  refine List.pairwise_map.2 (List.Pairwise.imp_of_mem (fun {x y} hx hy hne he => ?_) List.nodup_range)
  have hx' := List.mem_range.1 hx
  have hy' := List.mem_range.1 hy
  have := h (a + x) (a + y) (by omega) (by omega) (by omega) (by omega) (hp _ (by omega) (by omega)) he
  exact hne (by omega)
/-! buckets -/
section
variable (s : List Int) (k : Int)
def st (c : Int) : Int := ps (cntV s k) c
def posL (c : Int) : List Int := (iota s.length).filter fun p => decide (rd s p = c) && !smB s p
def posS (c : Int) : List Int := (iota s.length).filter fun p => decide (rd s p = c) && smB s p
end
section
variable {s : List Int} {k : Int}
theorem mem_posL {c p : Int} : p ∈ posL s c ↔ isL s p ∧ rd s p = c := by
  unfold posL isL
  rw [List.mem_filter, mem_iota, Bool.and_eq_true, decide_eq_true_iff]
  simp only [Bool.not_eq_true']
  exact ⟨fun ⟨a, b, c⟩ => ⟨⟨a, c⟩, b⟩, fun ⟨⟨a, c⟩, b⟩ => ⟨a, b, c⟩⟩
theorem mem_posS {c p : Int} : p ∈ posS s c ↔ isS s p ∧ rd s p = c := by
  unfold posS isS
  rw [List.mem_filter, mem_iota, Bool.and_eq_true, decide_eq_true_iff]
  exact ⟨fun ⟨a, b, c⟩ => ⟨⟨a, c⟩, b⟩, fun ⟨⟨a, c⟩, b⟩ => ⟨a, b, c⟩⟩
theorem st_zero : st s k 0 = 0 := rfl
theorem map_iota_rd (s : List Int) : (iota s.length).map (rd s) = s := by
  refine list_ext_rd (by rw [List.length_map, iota_len]) fun j h0 h1 => ?_
  rw [List.length_map, iota_len] at h1
  have : (iota s.length).map (rd s) = (List.range s.length).map fun i : Nat => rd s i := by unfold iota; rw [List.map_map]; rfl
  rw [this, rd_range h0 h1, show ((j.toNat : Nat) : Int) = j by omega]
theorem st_succ {c : Int} (h0 : 0 ≤ c) (h : c < k) : st s k (c + 1) = st s k c + (posL s c).length + (posS s c).length := by
  unfold st
  rw [ps_succ h0 (by rw [cntV_len]; omega), rd_cntV h0 h]
  have e : (s.filter fun x => decide (x = c)).length = ((iota s.length).filter fun p => decide (rd s p = c)).length := by
    conv => lhs; rw [← map_iota_rd s]
    rw [List.filter_map, List.length_map]
    rfl
  have e2 : ((iota s.length).filter fun p => decide (rd s p = c)).length = (posL s c).length + (posS s c).length := by
    unfold posL posS
    generalize iota s.length = l
    induction l with
    | nil => rfl
    | cons a l ih =>
      by_cases h : rd s a = c
      · cases hb : smB s a with
        | true => rw [List.filter_cons_of_pos (by simpa using h), List.filter_cons_of_neg (by simp [hb]), List.filter_cons_of_pos (by simp [h, hb])]; simp only [List.length_cons]; omega
        | false => rw [List.filter_cons_of_pos (by simpa using h), List.filter_cons_of_pos (by simp [h, hb]), List.filter_cons_of_neg (by simp [hb])]; simp only [List.length_cons]; omega
      · rw [List.filter_cons_of_neg (by simpa using h), List.filter_cons_of_neg (by simp [h]), List.filter_cons_of_neg (by simp [h])]
        exact ih
  rw [e, e2]
  omega
theorem st_mono {c d : Int} (h0 : 0 ≤ c) (hcd : c < d) (hd : d ≤ k) : st s k (c + 1) ≤ st s k d := by
  obtain ⟨m, rfl⟩ : ∃ m : Nat, d = c + 1 + m := ⟨(d - c - 1).toNat, by omega⟩
  induction m with
  | zero => simp
  | succ m ih =>
    have := ih (by omega) (by omega)
    have e := st_succ (s := s) (k := k) (c := c + 1 + m) (by omega) (by omega)
    rw [show c + 1 + ((m + 1 : Nat) : Int) = c + 1 + m + 1 by omega]
    omega
theorem st_nonneg {c : Int} : 0 ≤ st s k c := (ps_bound (cntV_nonneg s k) c).1
theorem st_top (hk : 0 ≤ k) (hs : ∀ x ∈ s, 0 ≤ x ∧ x < k) : st s k k = s.length := by
  unfold st
  rw [ps_all (by rw [cntV_len]; omega)]
  have := cntV_sum (order := iota s.length) (keys := s) (k := k) hk fun i hi => by
    have := mem_iota.1 hi
    exact hs _ (rd_mem this.1 this.2)
  rw [map_iota_rd, iota_len] at this
  exact this
theorem st_le (hk : 0 ≤ k) (hs : ∀ x ∈ s, 0 ≤ x ∧ x < k) {c : Int} (h0 : 0 ≤ c) (h : c ≤ k) : st s k c ≤ s.length := by
  rcases Int.lt_or_le c k with a | a
  · have h1 := st_succ (s := s) h0 a
    have h2 := st_mono (s := s) h0 a (Int.le_refl k)
    rw [st_top hk hs] at h2
    omega
  · rw [show c = k by omega, st_top hk hs]
    omega
/-- Each place of a row lies in a bucket. -/
theorem bucket_of (hk : 0 ≤ k) (hs : ∀ x ∈ s, 0 ≤ x ∧ x < k) {q : Int} (q0 : 0 ≤ q) (hq : q < s.length) : ∃ c, (0 ≤ c ∧ c < k) ∧ st s k c ≤ q ∧ q < st s k (c + 1) := by
  have gen : ∀ m : Nat, (m : Int) ≤ k → q < st s k m → ∃ c, (0 ≤ c ∧ c < k) ∧ st s k c ≤ q ∧ q < st s k (c + 1) := by
    intro m
    induction m with
    | zero => intro _ h; rw [show ((0 : Nat) : Int) = 0 from rfl, st_zero] at h; omega
    | succ m ih =>
      intro hm h
      rcases Int.lt_or_le q (st s k m) with a | a
      · exact ih (by omega) a
      · exact ⟨m, by omega, a, by rw [show ((m : Int) + 1) = ((m + 1 : Nat) : Int) by omega]; exact h⟩
  have := gen k.toNat (by omega)
  rw [show ((k.toNat : Nat) : Int) = k by omega, st_top hk hs] at this
  exact this hq
theorem bucket_one {c d q : Int} (c0 : 0 ≤ c) (ck : c < k) (d0 : 0 ≤ d) (dk : d < k) (h1 : st s k c ≤ q) (h2 : q < st s k (c + 1)) (h3 : st s k d ≤ q) (h4 : q < st s k (d + 1)) : c = d := by
  rcases Int.lt_trichotomy c d with a | a | a
  · have := st_mono (s := s) c0 a (by omega : d ≤ k); omega
  · exact a
  · have := st_mono (s := s) d0 a (by omega : c ≤ k); omega
end
end Go.Pure
/-
  Plain laws: induced sorting: the large ones, from left to right. Own work.
-/
namespace Go.Pure
open Go Go.Eng
section
variable {s : List Int} {k : Int} {R : Int → Int → Prop}
/-- What an order of endings is to keep while the large ones are laid. -/
structure RelL (s : List Int) (R : Int → Int → Prop) : Prop where
  char : ∀ {p q : Int}, 0 ≤ p ∧ p < s.length → 0 ≤ q ∧ q < s.length → rd s p < rd s q → R p q
  ls : ∀ {p q : Int}, isL s p → isS s q → rd s p = rd s q → R p q
  last : ∀ {q : Int}, 0 < s.length → 0 ≤ q → q + 1 < s.length → rd s (s.length - 1) = rd s q → isL s q → R (s.length - 1) q
  backL : ∀ {p q : Int}, isL s p → isL s q → p + 1 < s.length → q + 1 < s.length → rd s p = rd s q → R (p + 1) (q + 1) → R p q
/-- The row that the first small ones are laid into. -/
structure BaseI (s : List Int) (k : Int) (R : Int → Int → Prop) (mF : Int → Int) (row : List Int) : Prop where
  len : row.length = s.length
  m0 : ∀ c, 0 ≤ c → c < k → 0 ≤ mF c ∧ mF c ≤ (posS s c).length
  some_ : ∀ c q, 0 ≤ c → c < k → st s k (c + 1) - mF c ≤ q → q < st s k (c + 1) → isS s (rd row q) ∧ rd s (rd row q) = c
  none_ : ∀ c q, 0 ≤ c → c < k → st s k c ≤ q → q < st s k (c + 1) - mF c → rd row q = -1
  once : Once row
  all : ∀ p : Int, 0 ≤ p → p < s.length → fstB s p = true → ∃ q : Int, 0 ≤ q ∧ q < s.length ∧ rd row q = p
  sorted : ∀ a b : Int, 0 ≤ a → a < b → b < s.length → 0 ≤ rd row a → 0 ≤ rd row b → R (rd row a) (rd row b)
structure LargeI (s : List Int) (k : Int) (R : Int → Int → Prop) (mF : Int → Int) (row0 row H : List Int) (C : Int → Prop) : Prop where
  len : row.length = s.length
  hlen : H.length = k.toNat
  hH : ∀ c, 0 ≤ c → c < k → st s k c ≤ rd H c ∧ rd H c ≤ st s k c + (posL s c).length
  placed : ∀ c q, 0 ≤ c → c < k → st s k c ≤ q → q < rd H c → isL s (rd row q) ∧ rd s (rd row q) = c
  rest : ∀ c q, 0 ≤ c → c < k → rd H c ≤ q → q < st s k (c + 1) → rd row q = rd row0 q
  once : Once row
  closed : ∀ p, isL s p → ((∃ q : Int, 0 ≤ q ∧ q < s.length ∧ rd row q = p) ↔ C p)
  sorted : ∀ a b : Int, 0 ≤ a → a < b → b < s.length → 0 ≤ rd row a → 0 ≤ rd row b → R (rd row a) (rd row b)
variable (hk : 0 ≤ k) (hs : ∀ x ∈ s, 0 ≤ x ∧ x < k) (hR : RelL s R)
theorem char_bd (hs : ∀ x ∈ s, 0 ≤ x ∧ x < k) {p : Int} (h : 0 ≤ p ∧ p < s.length) : 0 ≤ rd s p ∧ rd s p < k := hs _ (rd_mem h.1 h.2)
variable {mF : Int → Int} {row0 row H : List Int} {C : Int → Prop}
/-- What stands at a place: a large one of its bucket, or a small one, or none. -/
theorem LargeI.at_ (h : LargeI s k R mF row0 row H C) (b : BaseI s k R mF row0) {c q : Int} (c0 : 0 ≤ c) (ck : c < k) (h1 : st s k c ≤ q) (h2 : q < st s k (c + 1)) :
    (q < rd H c ∧ isL s (rd row q) ∧ rd s (rd row q) = c) ∨ (rd H c ≤ q ∧ isS s (rd row q) ∧ rd s (rd row q) = c) ∨ (rd H c ≤ q ∧ rd row q = -1) := by
  rcases Int.lt_or_le q (rd H c) with a | a
  · exact .inl ⟨a, h.placed c q c0 ck h1 a⟩
  · rw [h.rest c q c0 ck a h2]
    rcases Int.lt_or_le q (st s k (c + 1) - mF c) with d | d
    · exact .inr (.inr ⟨a, b.none_ c q c0 ck h1 d⟩)
    · exact .inr (.inl ⟨a, b.some_ c q c0 ck d h2⟩)
include hk hs in
theorem LargeI.entry (h : LargeI s k R mF row0 row H C) (b : BaseI s k R mF row0) {q : Int} (q0 : 0 ≤ q) (hq : q < s.length) : rd row q = -1 ∨ (0 ≤ rd row q ∧ rd row q < s.length) := by
  obtain ⟨c, ⟨c0, ck⟩, h1, h2⟩ := bucket_of hk hs q0 hq
  rcases h.at_ b c0 ck h1 h2 with a | a | a
  · exact .inr a.2.1.1
  · exact .inr a.2.1.1
  · exact .inl a.2
theorem st_room {b : BaseI s k R mF row0} {c : Int} (c0 : 0 ≤ c) (ck : c < k) : st s k c + (posL s c).length ≤ st s k (c + 1) - mF c := by
  have := st_succ (s := s) c0 ck
  have := b.m0 c c0 ck
  omega
include hk hs in
/-- A large place that is not there yet: where it is laid. -/
theorem LargeI.room (h : LargeI s k R mF row0 row H C) (b : BaseI s k R mF row0) {p : Int} (hp : isL s p) (hn : ¬ ∃ q : Int, 0 ≤ q ∧ q < s.length ∧ rd row q = p) :
    (st s k (rd s p) ≤ rd H (rd s p) ∧ rd H (rd s p) < st s k (rd s p) + (posL s (rd s p)).length) ∧ rd row (rd H (rd s p)) = -1 ∧ (0 ≤ rd H (rd s p) ∧ rd H (rd s p) < s.length) ∧ rd H (rd s p) < st s k (rd s p + 1) := by
  obtain ⟨c0, ck⟩ := char_bd hs hp.1
  have hH := h.hH _ c0 ck
  have hroom := st_room (b := b) c0 ck
  have hle := st_le hk hs (c := rd s p + 1) (by omega) (by omega)
  have hnn := st_nonneg (s := s) (k := k) (c := rd s p)
  have hm := b.m0 _ c0 ck
  have hlt : rd H (rd s p) < st s k (rd s p) + (posL s (rd s p)).length := by
    have hmem : ∀ x ∈ p :: seg row (st s k (rd s p)) (rd H (rd s p)), x ∈ posL s (rd s p) := by
      intro x hx
      rcases List.mem_cons.1 hx with rfl | hx
      · exact mem_posL.2 ⟨hp, rfl⟩
      · obtain ⟨q, q1, q2, rfl⟩ := mem_seg.1 hx
        exact mem_posL.2 (h.placed _ q c0 ck q1 q2)
    have hnd : (p :: seg row (st s k (rd s p)) (rd H (rd s p))).Nodup := by
      refine List.nodup_cons.2 ⟨fun hx => ?_, seg_nodup h.once hnn (by rw [h.len]; omega) fun q q1 q2 => (h.placed _ q c0 ck q1 q2).1.1.1⟩
      obtain ⟨q, q1, q2, e⟩ := mem_seg.1 hx
      exact hn ⟨q, by omega, by omega, e⟩
    have := nodup_len hnd hmem
    rw [List.length_cons, seg_len] at this
    omega
  refine ⟨⟨hH.1, hlt⟩, ?_, ⟨by omega, by omega⟩, by omega⟩
  rw [h.rest _ _ c0 ck (Int.le_refl _) (by omega), b.none_ _ _ c0 ck hH.1 (by omega)]
include hk hs hR in
/-- A large place is laid. -/
theorem LargeI.lay (h : LargeI s k R mF row0 row H C) (b : BaseI s k R mF row0) {p : Int} {C' : Int → Prop} (hp : isL s p) (hn : ¬ ∃ q : Int, 0 ≤ q ∧ q < s.length ∧ rd row q = p) (hcl : ∀ p', isL s p' → (C' p' ↔ C p' ∨ p' = p))
    (hord : ∀ p', isL s p' → rd s p' = rd s p → (∃ q : Int, 0 ≤ q ∧ q < s.length ∧ rd row q = p') → R p' p) :
    LargeI s k R mF row0 (upd row (rd H (rd s p)) p) (upd H (rd s p) (rd H (rd s p) + 1)) C' := by
  obtain ⟨c0, ck⟩ := char_bd hs hp.1
  obtain ⟨⟨r1, r2⟩, r3, ⟨r4, r5⟩, r6⟩ := h.room hk hs b hp hn
  have hrow : ∀ q, 0 ≤ q → rd (upd row (rd H (rd s p)) p) q = if q = rd H (rd s p) then p else rd row q := fun q q0 => rd_upd r4 q0 (by rw [h.len]; omega)
  have hHu : ∀ c, 0 ≤ c → rd (upd H (rd s p) (rd H (rd s p) + 1)) c = if c = rd s p then rd H (rd s p) + 1 else rd H c := fun c c0' => rd_upd c0 c0' (by rw [h.hlen]; omega)
  have hex : ∀ x : Int, 0 ≤ x → ((∃ q : Int, 0 ≤ q ∧ q < s.length ∧ rd (upd row (rd H (rd s p)) p) q = x) ↔ ((∃ q : Int, 0 ≤ q ∧ q < s.length ∧ rd row q = x) ∨ x = p)) := by
    intro x hx
    constructor
    · rintro ⟨q, q0, q1, e⟩
      rw [hrow q q0] at e
      split at e
      · exact .inr e.symm
      · exact .inl ⟨q, q0, q1, e⟩
    · rintro (⟨q, q0, q1, e⟩ | rfl)
      · refine ⟨q, q0, q1, ?_⟩
        rw [hrow q q0, if_neg, e]
        intro e2
        rw [e2, r3] at e
        omega
      · exact ⟨_, r4, r5, by rw [hrow _ r4, if_pos rfl]⟩
  refine ⟨by rw [upd_length]; exact h.len, by rw [upd_length]; exact h.hlen, fun c d0 dk => ?_, fun c q d0 dk q1 q2 => ?_, fun c q d0 dk q1 q2 => ?_, fun q r q0 q1 t0 t1 hq e => ?_, fun p' hp' => ?_, fun x y x0 xy y1 hx hy => ?_⟩
  · have := h.hH c d0 dk
    rw [hHu c d0]
    split
    · rename_i e; subst e; omega
    · exact this
  · have hq0 : 0 ≤ q := by have := st_nonneg (s := s) (k := k) (c := c); omega
    rw [hHu c d0] at q2
    rw [hrow q hq0]
    by_cases e : q = rd H (rd s p)
    · rw [if_pos e]
      have hc : c = rd s p := by
        by_cases e2 : c = rd s p
        · exact e2
        · rw [if_neg e2] at q2
          have := h.hH c d0 dk
          have hr := st_room (b := b) d0 dk
          have := b.m0 c d0 dk
          exact bucket_one (s := s) d0 dk c0 ck q1 (by omega) (by omega) (by omega)
      exact ⟨hp, hc.symm⟩
    · rw [if_neg e]
      refine h.placed c q d0 dk q1 ?_
      by_cases e2 : c = rd s p
      · rw [if_pos e2] at q2; subst e2; omega
      · rw [if_neg e2] at q2; exact q2
  · rw [hHu c d0] at q1
    have hHc := h.hH c d0 dk
    have hq0 : 0 ≤ q := by
      have := st_nonneg (s := s) (k := k) (c := c)
      by_cases e2 : c = rd s p
      · rw [if_pos e2] at q1; subst e2; omega
      · rw [if_neg e2] at q1; omega
    rw [hrow q hq0]
    by_cases e2 : c = rd s p
    · rw [if_pos e2] at q1
      rw [if_neg (by omega)]
      subst e2
      exact h.rest _ q d0 dk (by omega) q2
    · rw [if_neg e2] at q1
      rw [if_neg, h.rest c q d0 dk q1 q2]
      intro e
      exact e2 (bucket_one (s := s) d0 dk c0 ck (by omega) q2 (by omega) (by omega))
  · rw [upd_length, h.len] at q1 t1
    rw [hrow q q0] at hq e
    rw [hrow r t0] at e
    by_cases e1 : q = rd H (rd s p)
    · rw [if_pos e1] at e
      by_cases e2 : r = rd H (rd s p)
      · omega
      · rw [if_neg e2] at e
        exact absurd ⟨r, t0, t1, e.symm⟩ hn
    · rw [if_neg e1] at e hq
      by_cases e2 : r = rd H (rd s p)
      · rw [if_pos e2] at e
        exact absurd ⟨q, q0, q1, e⟩ hn
      · rw [if_neg e2] at e
        exact h.once q r q0 (by rw [h.len]; exact q1) t0 (by rw [h.len]; exact t1) hq e
  · rw [hex p' hp'.1.1, h.closed p' hp', hcl p' hp']
  · have key : ∀ z : Int, 0 ≤ z → z < s.length → 0 ≤ rd row z → (z < rd H (rd s p) → R (rd row z) p) ∧ (rd H (rd s p) < z → R p (rd row z)) := by
      intro z z0 z1 hz
      obtain ⟨c, ⟨d0, dk⟩, h1, h2⟩ := bucket_of hk hs z0 z1
      have hat := h.at_ b d0 dk h1 h2
      have hpos : 0 ≤ rd row z ∧ rd row z < s.length := by
        rcases hat with a | a | a
        · exact a.2.1.1
        · exact a.2.1.1
        · rw [a.2] at hz; omega
      have hchar : rd s (rd row z) = c := by
        rcases hat with a | a | a
        · exact a.2.2
        · exact a.2.2
        · rw [a.2] at hz; omega
      refine ⟨fun hlt => ?_, fun hlt => ?_⟩
      · rcases Int.lt_trichotomy c (rd s p) with e | e | e
        · exact hR.char hpos hp.1 (by omega)
        · subst e
          rcases hat with a | a | a
          · exact hord _ a.2.1 a.2.2 ⟨z, z0, z1, rfl⟩
          · omega
          · omega
        · have := st_mono (s := s) c0 e (by omega : c ≤ k)
          omega
      · rcases Int.lt_trichotomy c (rd s p) with e | e | e
        · have := st_mono (s := s) d0 e (by omega : rd s p ≤ k)
          omega
        · subst e
          rcases hat with a | a | a
          · omega
          · exact hR.ls hp a.2.1 a.2.2.symm
          · rw [a.2] at hz; omega
        · exact hR.char hp.1 hpos (by omega)
    rw [hrow x x0] at hx ⊢
    rw [hrow y (by omega)] at hy ⊢
    by_cases e1 : x = rd H (rd s p)
    · rw [if_pos e1, if_neg (by omega)]
      rw [if_neg (by omega)] at hy
      exact (key y (by omega) y1 hy).2 (by omega)
    · rw [if_neg e1]
      rw [if_neg e1] at hx
      by_cases e2 : y = rd H (rd s p)
      · rw [if_pos e2]
        exact (key x x0 (by omega) hx).1 (by omega)
      · rw [if_neg e2]
        rw [if_neg e2] at hy
        exact h.sorted x y x0 xy y1 hx hy
/-- Which large ones are there when the row has been read up to i. -/
def CL (s row : List Int) (i p : Int) : Prop := p = s.length - 1 ∨ ∃ q : Int, 0 ≤ q ∧ q < i ∧ rd row q = p + 1
include hk hs hR in
/-- The last place is laid first. -/
theorem large_start (b : BaseI s k R mF row0) (hn : 0 < s.length) (hH : H.length = k.toNat) (hH2 : ∀ c, 0 ≤ c → c < k → rd H c = st s k c) :
    LargeI s k R mF row0 (upd row0 (rd H (rd s (s.length - 1))) (s.length - 1)) (upd H (rd s (s.length - 1)) (rd H (rd s (s.length - 1)) + 1)) (CL s (upd row0 (rd H (rd s (s.length - 1))) (s.length - 1)) 0) := by
  have hnone : ∀ p, isL s p → ¬ ∃ q : Int, 0 ≤ q ∧ q < s.length ∧ rd row0 q = p := by
    rintro p hp ⟨q, q0, q1, e⟩
    obtain ⟨c, ⟨c0, ck⟩, h1, h2⟩ := bucket_of hk hs q0 q1
    rcases Int.lt_or_le q (st s k (c + 1) - mF c) with d | d
    · have := b.none_ c q c0 ck h1 d
      have := hp.1.1
      omega
    · have := (b.some_ c q c0 ck d h2).1
      rw [e] at this
      exact hp.not_S this
  have h0 : LargeI s k R mF row0 row0 H fun _ => False :=
    ⟨b.len, hH, fun c c0 ck => by rw [hH2 c c0 ck]; omega, fun c q c0 ck q1 q2 => by rw [hH2 c c0 ck] at q2; omega, fun c q _ _ _ _ => rfl, b.once, fun p hp => iff_false_intro (hnone p hp), b.sorted⟩
  have hp : isL s (s.length - 1) := ⟨by omega, smB_last (by omega) (by omega)⟩
  refine h0.lay hk hs hR b hp (hnone _ hp) (fun p' hp' => ?_) fun p' hp' _ hex => absurd hex (hnone p' hp')
  unfold CL
  constructor
  · rintro (e | ⟨q, q0, q1, _⟩)
    · exact .inr e
    · omega
  · rintro (h | e)
    · exact h.elim
    · exact .inl e
/-- A place of the row is read. -/
theorem large_skip {i : Int} (h : LargeI s k R mF row0 row H (CL s row i)) (hc : ¬ (0 < rd row i ∧ smB s (rd row i - 1) = false)) : LargeI s k R mF row0 row H (CL s row (i + 1)) := by
  refine ⟨h.len, h.hlen, h.hH, h.placed, h.rest, h.once, fun p hp => ?_, h.sorted⟩
  rw [h.closed p hp]
  unfold CL
  refine or_congr_right ⟨fun ⟨q, q0, q1, e⟩ => ⟨q, q0, by omega, e⟩, ?_⟩
  rintro ⟨q, q0, q1, e⟩
  rcases Int.lt_or_le q i with a | a
  · exact ⟨q, q0, a, e⟩
  · exfalso
    have : q = i := by omega
    subst this
    rw [e] at hc
    have := hp.1.1
    exact hc ⟨by omega, by rw [show p + 1 - 1 = p by omega]; exact hp.2⟩
include hk hs in
theorem large_new {i : Int} (h : LargeI s k R mF row0 row H (CL s row i)) (b : BaseI s k R mF row0) (i0 : 0 ≤ i) (hi : i < s.length) (hc : 0 < rd row i ∧ smB s (rd row i - 1) = false) :
    isL s (rd row i - 1) ∧ (¬ ∃ q : Int, 0 ≤ q ∧ q < s.length ∧ rd row q = rd row i - 1) ∧ rd row i < s.length ∧ i < rd H (rd s (rd row i - 1)) := by
  have hent := h.entry hk hs b i0 hi
  have hj : 0 ≤ rd row i ∧ rd row i < s.length := by omega
  have hp : isL s (rd row i - 1) := ⟨by omega, hc.2⟩
  have hn : ¬ ∃ q : Int, 0 ≤ q ∧ q < s.length ∧ rd row q = rd row i - 1 := by
    intro hex
    rcases (h.closed _ hp).1 hex with e | ⟨q, q0, q1, e⟩
    · omega
    · have := h.once q i q0 (by rw [h.len]; omega) i0 (by rw [h.len]; exact hi) (by omega) (by omega)
      omega
  refine ⟨hp, hn, hj.2, ?_⟩
  obtain ⟨c, ⟨c0, ck⟩, h1, h2⟩ := bucket_of hk hs i0 hi
  obtain ⟨d0, dk⟩ := char_bd hs hp.1
  have hnx := hp.next (by omega)
  rw [show rd row i - 1 + 1 = rd row i by omega] at hnx
  have hHp := h.hH _ d0 dk
  rcases h.at_ b c0 ck h1 h2 with a | a | a
  · rcases Int.lt_or_le c (rd s (rd row i - 1)) with e | e
    · have := st_mono (s := s) c0 e (by omega : rd s (rd row i - 1) ≤ k)
      omega
    · have : rd s (rd row i - 1) = c := by omega
      rw [this]
      exact a.1
  · rcases Int.lt_or_le c (rd s (rd row i - 1)) with e | e
    · have := st_mono (s := s) c0 e (by omega : rd s (rd row i - 1) ≤ k)
      omega
    · exact absurd a.2.1 (hnx.2 (by omega)).not_S
  · omega
include hk hs hR in
theorem large_step {i : Int} (h : LargeI s k R mF row0 row H (CL s row i)) (b : BaseI s k R mF row0) (i0 : 0 ≤ i) (hi : i < s.length) (hc : 0 < rd row i ∧ smB s (rd row i - 1) = false) :
    LargeI s k R mF row0 (upd row (rd H (rd s (rd row i - 1))) (rd row i - 1)) (upd H (rd s (rd row i - 1)) (rd H (rd s (rd row i - 1)) + 1)) (CL s (upd row (rd H (rd s (rd row i - 1))) (rd row i - 1)) (i + 1)) := by
  obtain ⟨hp, hn, hj, hlt⟩ := large_new hk hs h b i0 hi hc
  have hroom := h.room hk hs b hp hn
  have hrow : ∀ q, 0 ≤ q → rd (upd row (rd H (rd s (rd row i - 1))) (rd row i - 1)) q = if q = rd H (rd s (rd row i - 1)) then rd row i - 1 else rd row q := fun q q0 => rd_upd hroom.2.2.1.1 q0 (by rw [h.len]; exact hroom.2.2.1.2)
  refine h.lay hk hs hR b hp hn (fun p' hp' => ?_) fun p' hp' he hex => ?_
  · unfold CL
    constructor
    · rintro (e | ⟨q, q0, q1, e⟩)
      · exact .inl (.inl e)
      · rw [hrow q q0, if_neg (by omega)] at e
        rcases Int.lt_or_le q i with a | a
        · exact .inl (.inr ⟨q, q0, a, e⟩)
        · have : q = i := by omega
          subst this
          exact .inr (by omega)
    · rintro ((e | ⟨q, q0, q1, e⟩) | e)
      · exact .inl e
      · exact .inr ⟨q, q0, by omega, by rw [hrow q q0, if_neg (by omega)]; exact e⟩
      · exact .inr ⟨i, i0, by omega, by rw [hrow i i0, if_neg (by omega)]; omega⟩
  · have hpb := hp.1
    rcases (h.closed _ hp').1 hex with e | ⟨q, q0, q1, e⟩
    · subst e
      exact hR.last (by omega) (by omega) (by omega) he hp
    · have h1 := h.entry hk hs b q0 (by omega)
      have h2 := hp'.1
      have := h.sorted q i q0 q1 hi (by omega) (by omega)
      rw [e] at this
      refine hR.backL hp' hp (by omega) (by omega) he ?_
      rwa [show rd row i - 1 + 1 = rd row i by omega]
include hk hs in
/-- When all has been read all large ones are there. -/
theorem large_all (h : LargeI s k R mF row0 row H (CL s row s.length)) (b : BaseI s k R mF row0) : ∀ (m : Nat) (p : Int), s.length - p ≤ m → isL s p → ∃ q : Int, 0 ≤ q ∧ q < s.length ∧ rd row q = p
  | 0, p, hm, hp => by have := hp.1; omega
  | m + 1, p, hm, hp => by
    have hb := hp.1
    rw [h.closed p hp]
    rcases Int.lt_or_le (p + 1) s.length with a | a
    · refine .inr ?_
      rcases isL_or_isS (s := s) (p := p + 1) (by omega) with l | l
      · exact large_all h b m (p + 1) (by omega) l
      · obtain ⟨q, q0, q1, e⟩ := b.all (p + 1) (by omega) a (fstB_iff.2 ⟨by omega, l.2, by rw [show p + 1 - 1 = p by omega]; exact hp.2⟩)
        refine ⟨q, q0, q1, ?_⟩
        obtain ⟨c, ⟨c0, ck⟩, h1, h2⟩ := bucket_of hk hs q0 q1
        have hH := h.hH c c0 ck
        have hr := st_room (b := b) c0 ck
        rw [h.rest c q c0 ck ?_ h2, e]
        rcases Int.lt_or_le q (st s k (c + 1) - mF c) with d | d
        · have := b.none_ c q c0 ck h1 d
          omega
        · omega
    · exact .inl (by omega)
end
end Go.Pure
/-
  Plain laws: induced sorting: the small ones, from right to left. Own work.
-/
namespace Go.Pure
open Go Go.Eng
section
variable {s : List Int} {k : Int} {R : Int → Int → Prop}
/-- What an order of endings is to keep while the small ones are laid. -/
structure RelS (s : List Int) (R : Int → Int → Prop) : Prop where
  char : ∀ {p q : Int}, 0 ≤ p ∧ p < s.length → 0 ≤ q ∧ q < s.length → rd s p < rd s q → R p q
  ls : ∀ {p q : Int}, isL s p → isS s q → rd s p = rd s q → R p q
  backS : ∀ {p q : Int}, isS s p → isS s q → p + 1 < s.length → q + 1 < s.length → rd s p = rd s q → R (p + 1) (q + 1) → R p q
/-- The row with large ones alone. -/
structure BaseS (s : List Int) (k : Int) (R : Int → Int → Prop) (T : Int → Int) (row : List Int) : Prop where
  len : row.length = s.length
  t0 : ∀ c, 0 ≤ c → c < k → st s k c ≤ T c ∧ T c ≤ st s k c + (posL s c).length
  some_ : ∀ c q, 0 ≤ c → c < k → st s k c ≤ q → q < T c → isL s (rd row q) ∧ rd s (rd row q) = c
  none_ : ∀ c q, 0 ≤ c → c < k → T c ≤ q → q < st s k (c + 1) → rd row q = -1
  once : Once row
  all : ∀ p : Int, isL s p → ∃ q : Int, 0 ≤ q ∧ q < s.length ∧ rd row q = p
  sorted : ∀ a b : Int, 0 ≤ a → a < b → b < s.length → 0 ≤ rd row a → 0 ≤ rd row b → R (rd row a) (rd row b)
structure SmallI (s : List Int) (k : Int) (R : Int → Int → Prop) (T : Int → Int) (row3 row E : List Int) (C : Int → Prop) : Prop where
  len : row.length = s.length
  elen : E.length = k.toNat
  hE : ∀ c, 0 ≤ c → c < k → st s k (c + 1) - (posS s c).length ≤ rd E c ∧ rd E c ≤ st s k (c + 1)
  placed : ∀ c q, 0 ≤ c → c < k → rd E c ≤ q → q < st s k (c + 1) → isS s (rd row q) ∧ rd s (rd row q) = c
  rest : ∀ c q, 0 ≤ c → c < k → st s k c ≤ q → q < rd E c → rd row q = rd row3 q
  once : Once row
  closed : ∀ p, isS s p → ((∃ q : Int, 0 ≤ q ∧ q < s.length ∧ rd row q = p) ↔ C p)
  sorted : ∀ a b : Int, 0 ≤ a → a < b → b < s.length → 0 ≤ rd row a → 0 ≤ rd row b → R (rd row a) (rd row b)
variable (hk : 0 ≤ k) (hs : ∀ x ∈ s, 0 ≤ x ∧ x < k) (hR : RelS s R)
variable {T : Int → Int} {row3 row E : List Int} {C : Int → Prop}
theorem SmallI.at_ (h : SmallI s k R T row3 row E C) (b : BaseS s k R T row3) {c q : Int} (c0 : 0 ≤ c) (ck : c < k) (h1 : st s k c ≤ q) (h2 : q < st s k (c + 1)) :
    (rd E c ≤ q ∧ isS s (rd row q) ∧ rd s (rd row q) = c) ∨ (q < rd E c ∧ isL s (rd row q) ∧ rd s (rd row q) = c) ∨ (q < rd E c ∧ rd row q = -1) := by
  rcases Int.lt_or_le q (rd E c) with a | a
  · rw [h.rest c q c0 ck h1 a]
    rcases Int.lt_or_le q (T c) with d | d
    · exact .inr (.inl ⟨a, b.some_ c q c0 ck h1 d⟩)
    · exact .inr (.inr ⟨a, b.none_ c q c0 ck d h2⟩)
  · exact .inl ⟨a, h.placed c q c0 ck a h2⟩
include hk hs in
theorem SmallI.entry (h : SmallI s k R T row3 row E C) (b : BaseS s k R T row3) {q : Int} (q0 : 0 ≤ q) (hq : q < s.length) : rd row q = -1 ∨ (0 ≤ rd row q ∧ rd row q < s.length) := by
  obtain ⟨c, ⟨c0, ck⟩, h1, h2⟩ := bucket_of hk hs q0 hq
  rcases h.at_ b c0 ck h1 h2 with a | a | a
  · exact .inr a.2.1.1
  · exact .inr a.2.1.1
  · exact .inl a.2
theorem st_roomS {b : BaseS s k R T row3} {c : Int} (c0 : 0 ≤ c) (ck : c < k) : T c ≤ st s k (c + 1) - (posS s c).length := by
  have := st_succ (s := s) c0 ck
  have := b.t0 c c0 ck
  omega
include hk hs in
theorem SmallI.room (h : SmallI s k R T row3 row E C) (b : BaseS s k R T row3) {p : Int} (hp : isS s p) (hn : ¬ ∃ q : Int, 0 ≤ q ∧ q < s.length ∧ rd row q = p) :
    (st s k (rd s p + 1) - (posS s (rd s p)).length ≤ rd E (rd s p) - 1 ∧ rd E (rd s p) ≤ st s k (rd s p + 1)) ∧ rd row (rd E (rd s p) - 1) = -1 ∧ (0 ≤ rd E (rd s p) - 1 ∧ rd E (rd s p) - 1 < s.length) ∧ st s k (rd s p) ≤ rd E (rd s p) - 1 := by
  obtain ⟨c0, ck⟩ := char_bd hs hp.1
  have hE := h.hE _ c0 ck
  have hroom := st_roomS (b := b) c0 ck
  have hle := st_le hk hs (c := rd s p + 1) (by omega) (by omega)
  have hnn := st_nonneg (s := s) (k := k) (c := rd s p)
  have ht := b.t0 _ c0 ck
  have hsu := st_succ (s := s) c0 ck
  have hlt : st s k (rd s p + 1) - (posS s (rd s p)).length ≤ rd E (rd s p) - 1 := by
    have hmem : ∀ x ∈ p :: seg row (rd E (rd s p)) (st s k (rd s p + 1)), x ∈ posS s (rd s p) := by
      intro x hx
      rcases List.mem_cons.1 hx with rfl | hx
      · exact mem_posS.2 ⟨hp, rfl⟩
      · obtain ⟨q, q1, q2, rfl⟩ := mem_seg.1 hx
        exact mem_posS.2 (h.placed _ q c0 ck q1 q2)
    have hnd : (p :: seg row (rd E (rd s p)) (st s k (rd s p + 1))).Nodup := by
      refine List.nodup_cons.2 ⟨fun hx => ?_, seg_nodup h.once (by omega) (by rw [h.len]; omega) fun q q1 q2 => (h.placed _ q c0 ck q1 q2).1.1.1⟩
      obtain ⟨q, q1, q2, e⟩ := mem_seg.1 hx
      exact hn ⟨q, by omega, by omega, e⟩
    have := nodup_len hnd hmem
    rw [List.length_cons, seg_len] at this
    omega
  refine ⟨⟨hlt, hE.2⟩, ?_, ⟨by omega, by omega⟩, by omega⟩
  rw [h.rest _ _ c0 ck (by omega) (by omega), b.none_ _ _ c0 ck (by omega) (by omega)]
include hk hs hR in
/-- A small place is laid. -/
theorem SmallI.lay (h : SmallI s k R T row3 row E C) (b : BaseS s k R T row3) {p : Int} {C' : Int → Prop} (hp : isS s p) (hn : ¬ ∃ q : Int, 0 ≤ q ∧ q < s.length ∧ rd row q = p) (hcl : ∀ p', isS s p' → (C' p' ↔ C p' ∨ p' = p))
    (hord : ∀ p', isS s p' → rd s p' = rd s p → (∃ q : Int, 0 ≤ q ∧ q < s.length ∧ rd row q = p') → R p p') :
    SmallI s k R T row3 (upd row (rd E (rd s p) - 1) p) (upd E (rd s p) (rd E (rd s p) - 1)) C' := by
  obtain ⟨c0, ck⟩ := char_bd hs hp.1
  obtain ⟨⟨r1, r2⟩, r3, ⟨r4, r5⟩, r6⟩ := h.room hk hs b hp hn
  have hrow : ∀ q, 0 ≤ q → rd (upd row (rd E (rd s p) - 1) p) q = if q = rd E (rd s p) - 1 then p else rd row q := fun q q0 => rd_upd r4 q0 (by rw [h.len]; omega)
  have hEu : ∀ c, 0 ≤ c → rd (upd E (rd s p) (rd E (rd s p) - 1)) c = if c = rd s p then rd E (rd s p) - 1 else rd E c := fun c c0' => rd_upd c0 c0' (by rw [h.elen]; omega)
  have hex : ∀ x : Int, 0 ≤ x → ((∃ q : Int, 0 ≤ q ∧ q < s.length ∧ rd (upd row (rd E (rd s p) - 1) p) q = x) ↔ ((∃ q : Int, 0 ≤ q ∧ q < s.length ∧ rd row q = x) ∨ x = p)) := by
    intro x hx
    constructor
    · rintro ⟨q, q0, q1, e⟩
      rw [hrow q q0] at e
      split at e
      · exact .inr e.symm
      · exact .inl ⟨q, q0, q1, e⟩
    · rintro (⟨q, q0, q1, e⟩ | rfl)
      · refine ⟨q, q0, q1, ?_⟩
        rw [hrow q q0, if_neg, e]
        intro e2
        rw [e2, r3] at e
        omega
      · exact ⟨_, r4, r5, by rw [hrow _ r4, if_pos rfl]⟩
  refine ⟨by rw [upd_length]; exact h.len, by rw [upd_length]; exact h.elen, fun c d0 dk => ?_, fun c q d0 dk q1 q2 => ?_, fun c q d0 dk q1 q2 => ?_, fun q r q0 q1 t0 t1 hq e => ?_, fun p' hp' => ?_, fun x y x0 xy y1 hx hy => ?_⟩
  · have := h.hE c d0 dk
    rw [hEu c d0]
    split
    · rename_i e; subst e; omega
    · exact this
  · rw [hEu c d0] at q1
    have hEc := h.hE c d0 dk
    have hsc := st_succ (s := s) d0 dk
    have hq0 : 0 ≤ q := by
      have := st_nonneg (s := s) (k := k) (c := c)
      by_cases e2 : c = rd s p
      · rw [if_pos e2] at q1; omega
      · rw [if_neg e2] at q1; omega
    rw [hrow q hq0]
    by_cases e : q = rd E (rd s p) - 1
    · rw [if_pos e]
      have hc : c = rd s p := by
        by_cases e2 : c = rd s p
        · exact e2
        · rw [if_neg e2] at q1
          exact bucket_one (s := s) d0 dk c0 ck (by omega) q2 (by omega) (by omega)
      exact ⟨hp, hc.symm⟩
    · rw [if_neg e]
      refine h.placed c q d0 dk ?_ q2
      by_cases e2 : c = rd s p
      · rw [if_pos e2] at q1; subst e2; omega
      · rw [if_neg e2] at q1; exact q1
  · rw [hEu c d0] at q2
    have hEc := h.hE c d0 dk
    have hq0 : 0 ≤ q := by have := st_nonneg (s := s) (k := k) (c := c); omega
    rw [hrow q hq0]
    by_cases e2 : c = rd s p
    · rw [if_pos e2] at q2
      rw [if_neg (by omega)]
      subst e2
      exact h.rest _ q d0 dk q1 (by omega)
    · rw [if_neg e2] at q2
      rw [if_neg, h.rest c q d0 dk q1 q2]
      intro e
      exact e2 (bucket_one (s := s) d0 dk c0 ck q1 (by omega) (by omega) (by omega))
  · rw [upd_length, h.len] at q1 t1
    rw [hrow q q0] at hq e
    rw [hrow r t0] at e
    by_cases e1 : q = rd E (rd s p) - 1
    · rw [if_pos e1] at e
      by_cases e2 : r = rd E (rd s p) - 1
      · omega
      · rw [if_neg e2] at e
        exact absurd ⟨r, t0, t1, e.symm⟩ hn
    · rw [if_neg e1] at e hq
      by_cases e2 : r = rd E (rd s p) - 1
      · rw [if_pos e2] at e
        exact absurd ⟨q, q0, q1, e⟩ hn
      · rw [if_neg e2] at e
        exact h.once q r q0 (by rw [h.len]; exact q1) t0 (by rw [h.len]; exact t1) hq e
  · rw [hex p' hp'.1.1, h.closed p' hp', hcl p' hp']
  · have key : ∀ z : Int, 0 ≤ z → z < s.length → 0 ≤ rd row z → (z < rd E (rd s p) - 1 → R (rd row z) p) ∧ (rd E (rd s p) - 1 < z → R p (rd row z)) := by
      intro z z0 z1 hz
      obtain ⟨c, ⟨d0, dk⟩, h1, h2⟩ := bucket_of hk hs z0 z1
      have hat := h.at_ b d0 dk h1 h2
      have hpos : 0 ≤ rd row z ∧ rd row z < s.length := by
        rcases hat with a | a | a
        · exact a.2.1.1
        · exact a.2.1.1
        · rw [a.2] at hz; omega
      have hchar : rd s (rd row z) = c := by
        rcases hat with a | a | a
        · exact a.2.2
        · exact a.2.2
        · rw [a.2] at hz; omega
      refine ⟨fun hlt => ?_, fun hlt => ?_⟩
      · rcases Int.lt_trichotomy c (rd s p) with e | e | e
        · exact hR.char hpos hp.1 (by omega)
        · subst e
          rcases hat with a | a | a
          · omega
          · exact hR.ls a.2.1 hp a.2.2
          · rw [a.2] at hz; omega
        · have := st_mono (s := s) c0 e (by omega : c ≤ k)
          omega
      · rcases Int.lt_trichotomy c (rd s p) with e | e | e
        · have := st_mono (s := s) d0 e (by omega : rd s p ≤ k)
          omega
        · subst e
          rcases hat with a | a | a
          · exact hord _ a.2.1 a.2.2 ⟨z, z0, z1, rfl⟩
          · omega
          · omega
        · exact hR.char hp.1 hpos (by omega)
    rw [hrow x x0] at hx ⊢
    rw [hrow y (by omega)] at hy ⊢
    by_cases e1 : x = rd E (rd s p) - 1
    · rw [if_pos e1, if_neg (by omega)]
      rw [if_neg (by omega)] at hy
      exact (key y (by omega) y1 hy).2 (by omega)
    · rw [if_neg e1]
      rw [if_neg e1] at hx
      by_cases e2 : y = rd E (rd s p) - 1
      · rw [if_pos e2]
        exact (key x x0 (by omega) hx).1 (by omega)
      · rw [if_neg e2]
        rw [if_neg e2] at hy
        exact h.sorted x y x0 xy y1 hx hy
/-- Which small ones are there when the row has been read from its end down to i. -/
def CS (s row : List Int) (i p : Int) : Prop := ∃ q : Int, i ≤ q ∧ q < s.length ∧ rd row q = p + 1
theorem small_start (b : BaseS s k R T row3) (hE : E.length = k.toNat) (hE2 : ∀ c, 0 ≤ c → c < k → rd E c = st s k (c + 1)) (hno : ∀ q : Int, 0 ≤ q → q < s.length → ¬ isS s (rd row3 q)) : SmallI s k R T row3 row3 E (CS s row3 s.length) :=
  ⟨b.len, hE, fun c c0 ck => by rw [hE2 c c0 ck]; omega, fun c q c0 ck q1 q2 => by rw [hE2 c c0 ck] at q1; omega, fun c q _ _ _ _ => rfl, b.once, fun p hp => ⟨fun ⟨q, q0, q1, e⟩ => absurd (by rw [e]; exact hp) (hno q q0 q1), fun ⟨q, q0, q1, _⟩ => by omega⟩, b.sorted⟩
theorem small_skip {i : Int} (h : SmallI s k R T row3 row E (CS s row (i + 1))) (hc : ¬ (0 < rd row i ∧ smB s (rd row i - 1) = true)) : SmallI s k R T row3 row E (CS s row i) := by
  refine ⟨h.len, h.elen, h.hE, h.placed, h.rest, h.once, fun p hp => ?_, h.sorted⟩
  rw [h.closed p hp]
  unfold CS
  refine ⟨fun ⟨q, q0, q1, e⟩ => ⟨q, by omega, q1, e⟩, ?_⟩
  rintro ⟨q, q0, q1, e⟩
  rcases Int.lt_or_le i q with a | a
  · exact ⟨q, by omega, q1, e⟩
  · exfalso
    have : q = i := by omega
    subst this
    rw [e] at hc
    have := hp.1.1
    exact hc ⟨by omega, by rw [show p + 1 - 1 = p by omega]; exact hp.2⟩
include hk hs in
theorem small_new {i : Int} (h : SmallI s k R T row3 row E (CS s row (i + 1))) (b : BaseS s k R T row3) (i0 : 0 ≤ i) (hi : i < s.length) (hc : 0 < rd row i ∧ smB s (rd row i - 1) = true) :
    isS s (rd row i - 1) ∧ (¬ ∃ q : Int, 0 ≤ q ∧ q < s.length ∧ rd row q = rd row i - 1) ∧ rd row i < s.length ∧ rd E (rd s (rd row i - 1)) - 1 < i := by
  have hent := h.entry hk hs b i0 hi
  have hj : 0 ≤ rd row i ∧ rd row i < s.length := by omega
  have hp : isS s (rd row i - 1) := ⟨by omega, hc.2⟩
  have hn : ¬ ∃ q : Int, 0 ≤ q ∧ q < s.length ∧ rd row q = rd row i - 1 := by
    intro hex
    obtain ⟨q, q0, q1, e⟩ := (h.closed _ hp).1 hex
    have := h.once q i (by omega) (by rw [h.len]; omega) i0 (by rw [h.len]; exact hi) (by omega) (by omega)
    omega
  refine ⟨hp, hn, hj.2, ?_⟩
  obtain ⟨c, ⟨c0, ck⟩, h1, h2⟩ := bucket_of hk hs i0 hi
  obtain ⟨d0, dk⟩ := char_bd hs hp.1
  obtain ⟨_, hn2, hn3⟩ := hp.next
  rw [show rd row i - 1 + 1 = rd row i by omega] at hn2 hn3
  have hEp := h.hE _ d0 dk
  rcases h.at_ b c0 ck h1 h2 with a | a | a
  · rcases Int.lt_or_le (rd s (rd row i - 1)) c with e | e
    · have := st_mono (s := s) d0 e (by omega : c ≤ k)
      omega
    · have : rd s (rd row i - 1) = c := by omega
      rw [this]
      omega
  · rcases Int.lt_or_le (rd s (rd row i - 1)) c with e | e
    · have := st_mono (s := s) d0 e (by omega : c ≤ k)
      omega
    · exact absurd (hn3 (by omega)) a.2.1.not_S
  · omega
include hk hs hR in
theorem small_step {i : Int} (h : SmallI s k R T row3 row E (CS s row (i + 1))) (b : BaseS s k R T row3) (i0 : 0 ≤ i) (hi : i < s.length) (hc : 0 < rd row i ∧ smB s (rd row i - 1) = true) :
    SmallI s k R T row3 (upd row (rd E (rd s (rd row i - 1)) - 1) (rd row i - 1)) (upd E (rd s (rd row i - 1)) (rd E (rd s (rd row i - 1)) - 1)) (CS s (upd row (rd E (rd s (rd row i - 1)) - 1) (rd row i - 1)) i) := by
  obtain ⟨hp, hn, hj, hlt⟩ := small_new hk hs h b i0 hi hc
  have hroom := h.room hk hs b hp hn
  have hrow : ∀ q, 0 ≤ q → rd (upd row (rd E (rd s (rd row i - 1)) - 1) (rd row i - 1)) q = if q = rd E (rd s (rd row i - 1)) - 1 then rd row i - 1 else rd row q := fun q q0 => rd_upd hroom.2.2.1.1 q0 (by rw [h.len]; exact hroom.2.2.1.2)
  refine h.lay hk hs hR b hp hn (fun p' hp' => ?_) fun p' hp' he hex => ?_
  · unfold CS
    constructor
    · rintro ⟨q, q0, q1, e⟩
      rw [hrow q (by omega), if_neg (by omega)] at e
      rcases Int.lt_or_le i q with a | a
      · exact .inl ⟨q, by omega, q1, e⟩
      · have : q = i := by omega
        subst this
        exact .inr (by omega)
    · rintro (⟨q, q0, q1, e⟩ | e)
      · exact ⟨q, by omega, q1, by rw [hrow q (by omega), if_neg (by omega)]; exact e⟩
      · exact ⟨i, by omega, hi, by rw [hrow i i0, if_neg (by omega)]; omega⟩
  · have hpb := hp.1
    obtain ⟨q, q0, q1, e⟩ := (h.closed _ hp').1 hex
    have h1 := h.entry hk hs b (q := q) (by omega) q1
    have h2 := hp'.1
    have := h.sorted i q i0 (by omega) q1 (by omega) (by omega)
    rw [e] at this
    refine hR.backS hp hp' (by omega) (by omega) he.symm ?_
    rwa [show rd row i - 1 + 1 = rd row i by omega]
include hk hs in
/-- When all has been read all small ones are there. -/
theorem small_all (h : SmallI s k R T row3 row E (CS s row 0)) (b : BaseS s k R T row3) : ∀ (m : Nat) (p : Int), s.length - p ≤ m → isS s p → ∃ q : Int, 0 ≤ q ∧ q < s.length ∧ rd row q = p
  | 0, p, hm, hp => by have := hp.1; omega
  | m + 1, p, hm, hp => by
    have hb := hp.1
    rw [h.closed p hp]
    obtain ⟨a, _, _⟩ := hp.next
    rcases isL_or_isS (s := s) (p := p + 1) (by omega) with l | l
    · obtain ⟨q, q0, q1, e⟩ := b.all (p + 1) l
      refine ⟨q, q0, q1, ?_⟩
      obtain ⟨c, ⟨c0, ck⟩, h1, h2⟩ := bucket_of hk hs q0 q1
      have hE := h.hE c c0 ck
      have hr := st_roomS (b := b) c0 ck
      rw [h.rest c q c0 ck h1 ?_, e]
      rcases Int.lt_or_le q (T c) with d | d
      · omega
      · have := b.none_ c q c0 ck d h2
        omega
    · exact small_all h b m (p + 1) (by omega) l
include hk hs in
theorem larges_stay (h : SmallI s k R T row3 row E C) (b : BaseS s k R T row3) {p : Int} (hp : isL s p) : ∃ q : Int, 0 ≤ q ∧ q < s.length ∧ rd row q = p := by
  obtain ⟨q, q0, q1, e⟩ := b.all p hp
  refine ⟨q, q0, q1, ?_⟩
  obtain ⟨c, ⟨c0, ck⟩, h1, h2⟩ := bucket_of hk hs q0 q1
  have hE := h.hE c c0 ck
  have hr := st_roomS (b := b) c0 ck
  have hb := hp.1
  rw [h.rest c q c0 ck h1 ?_, e]
  rcases Int.lt_or_le q (T c) with d | d
  · omega
  · have := b.none_ c q c0 ck d h2
    omega
include hk hs in
/-- What comes out: each place once, bucket by bucket; in order if the first ones were. -/
theorem induced (h : SmallI s k R T row3 row E (CS s row 0)) (b : BaseS s k R T row3) : row.Perm (iota s.length) ∧ (∀ q : Int, 0 ≤ q → q + 1 < s.length → rd s (rd row q) ≤ rd s (rd row (q + 1))) ∧ row.Pairwise R := by
  have hall : ∀ p : Int, 0 ≤ p ∧ p < s.length → ∃ q : Int, 0 ≤ q ∧ q < s.length ∧ rd row q = p := fun p hp => by
    rcases isL_or_isS hp with l | l
    · exact larges_stay hk hs h b l
    · exact small_all hk hs h b (s.length - p).toNat p (by omega) l
  have hperm : (iota s.length).Perm row := perm_all (iota_nodup _) (fun x hx => by
    obtain ⟨q, q0, q1, rfl⟩ := hall x (mem_iota.1 hx)
    exact rd_mem q0 (by rw [h.len]; exact q1)) (by rw [h.len, iota_len]; exact Nat.le_refl _)
  have hpos : ∀ q : Int, 0 ≤ q → q < s.length → 0 ≤ rd row q ∧ rd row q < s.length := fun q q0 q1 => mem_iota.1 (hperm.symm.subset (rd_mem q0 (by rw [h.len]; exact q1)))
  have hchar : ∀ c q : Int, 0 ≤ c → c < k → st s k c ≤ q → q < st s k (c + 1) → 0 ≤ q → q < s.length → rd s (rd row q) = c := fun c q c0 ck h1 h2 q0 q1 => by
    have hp := hpos q q0 q1
    rcases h.at_ b c0 ck h1 h2 with a | a | a
    · exact a.2.2
    · exact a.2.2
    · omega
  refine ⟨hperm.symm, fun q q0 q1 => ?_, ?_⟩
  · obtain ⟨c, ⟨c0, ck⟩, h1, h2⟩ := bucket_of hk hs q0 (by omega)
    obtain ⟨d, ⟨d0, dk⟩, h3, h4⟩ := bucket_of hk hs (q := q + 1) (by omega) q1
    rw [hchar c q c0 ck h1 h2 q0 (by omega), hchar d (q + 1) d0 dk h3 h4 (by omega) q1]
    rcases Int.lt_or_le d c with e | e
    · have := st_mono (s := s) d0 e (by omega : c ≤ k)
      omega
    · exact e
  · refine List.pairwise_iff_getElem.2 fun x y hx hy hxy => ?_
    have e : ∀ z (hz : z < row.length), rd row z = row[z] := fun z hz => by
      unfold rd
      rw [Int.toNat_natCast, List.getD_eq_getElem?_getD, List.getElem?_eq_getElem hz]
      rfl
    rw [h.len] at hx hy
    have := h.sorted x y (by omega) (by omega) (by omega) (hpos x (by omega) (by omega)).1 (hpos y (by omega) (by omega)).1
    rwa [e x (by rw [h.len]; exact hx), e y (by rw [h.len]; exact hy)] at this
end
end Go.Pure
/-
  Plain laws: induced sorting: the first small ones; all of it, as a function. Own work.
-/
namespace Go.Pure
open Go Go.Eng
section
variable {s : List Int} {k : Int}
/-- The first small ones, laid from their row's end. -/
structure FirstI (s : List Int) (k : Int) (l : List Int) (row E : List Int) : Prop where
  len : row.length = s.length
  elen : E.length = k.toNat
  hE : ∀ c, 0 ≤ c → c < k → rd E c = st s k (c + 1) - (ofKey l s c).length
  vals : ∀ c u : Int, 0 ≤ c → c < k → 0 ≤ u → u < (ofKey l s c).length → rd row (rd E c + u) = rd (ofKey l s c) u
  none_ : ∀ c q, 0 ≤ c → c < k → st s k c ≤ q → q < rd E c → rd row q = -1
/-- May these be first ones? -/
def FirstOk (s l : List Int) : Prop := l.Nodup ∧ ∀ j ∈ l, (0 ≤ j ∧ j < s.length) ∧ fstB s j = true
theorem firstOk_of {l : List Int} (h : l.Perm (fstL s)) : FirstOk s l := ⟨h.symm.nodup (fstL_nodup s), fun j hj => mem_fstL.1 (h.subset hj)⟩
theorem FirstOk.tail {l : List Int} {j : Int} (h : FirstOk s (j :: l)) : FirstOk s l := ⟨(List.nodup_cons.1 h.1).2, fun x hx => h.2 x (List.mem_cons_of_mem _ hx)⟩
theorem FirstOk.small {l : List Int} (h : FirstOk s l) {j : Int} (hj : j ∈ l) : isS s j := ⟨(h.2 j hj).1, (fstB_iff.1 (h.2 j hj).2).2.1⟩
theorem ofKey_bd {l : List Int} (h : FirstOk s l) (c : Int) : (ofKey l s c).length ≤ (posS s c).length :=
  nodup_len (h.1.sublist List.filter_sublist) fun x hx => by
    obtain ⟨h1, h2⟩ := List.mem_filter.1 hx
    rw [decide_eq_true_iff] at h2
    exact mem_posS.2 ⟨h.small h1, h2⟩
theorem ofKey_cons_same {l keys : List Int} {j c : Int} (h : rd keys j = c) : ofKey (j :: l) keys c = j :: ofKey l keys c := by
  unfold ofKey
  rw [List.filter_cons_of_pos (by simpa using h)]
theorem ofKey_cons_other {l keys : List Int} {j c : Int} (h : rd keys j ≠ c) : ofKey (j :: l) keys c = ofKey l keys c := by
  unfold ofKey
  rw [List.filter_cons_of_neg (by simpa using h)]
theorem first_zero (hk : 0 ≤ k) (hs : ∀ x ∈ s, 0 ≤ x ∧ x < k) {E : List Int} (hE : E.length = k.toNat) (hE2 : ∀ c, 0 ≤ c → c < k → rd E c = st s k (c + 1)) : FirstI s k [] (List.replicate s.length (-1)) E := by
  refine ⟨by simp, hE, fun c c0 ck => by rw [hE2 c c0 ck]; simp [ofKey], fun c u _ _ _ hu => by simp [ofKey] at hu; omega, fun c q c0 ck h1 h2 => ?_⟩
  rw [hE2 c c0 ck] at h2
  have h0 := st_nonneg (s := s) (k := k) (c := c)
  have h3 := st_le hk hs (c := c + 1) (by omega) (by omega)
  unfold rd
  rw [List.getD_eq_getElem?_getD, List.getElem?_replicate, if_pos (by omega)]
  rfl
variable {row E : List Int} {l : List Int} {j : Int}
theorem FirstI.room (hk : 0 ≤ k) (hs : ∀ x ∈ s, 0 ≤ x ∧ x < k) (h : FirstI s k l row E) (ok : FirstOk s (j :: l)) : st s k (rd s j) ≤ rd E (rd s j) - 1 ∧ (0 ≤ rd E (rd s j) - 1 ∧ rd E (rd s j) - 1 < s.length) ∧ (0 ≤ rd s j ∧ rd s j < k) ∧ rd E (rd s j) ≤ st s k (rd s j + 1) := by
  have hj := ok.2 j (by simp)
  obtain ⟨c0, ck⟩ := char_bd hs hj.1
  have h1 := ofKey_bd ok (rd s j)
  rw [ofKey_cons_same rfl, List.length_cons] at h1
  have h2 := st_succ (s := s) c0 ck
  have h3 := h.hE _ c0 ck
  have h4 := st_nonneg (s := s) (k := k) (c := rd s j)
  have h5 := st_le hk hs (c := rd s j + 1) (by omega) (by omega)
  omega
theorem FirstI.step (hk : 0 ≤ k) (hs : ∀ x ∈ s, 0 ≤ x ∧ x < k) (h : FirstI s k l row E) (ok : FirstOk s (j :: l)) : FirstI s k (j :: l) (upd row (rd E (rd s j) - 1) j) (upd E (rd s j) (rd E (rd s j) - 1)) := by
  obtain ⟨r1, ⟨r2, r3⟩, ⟨c0, ck⟩, r4⟩ := h.room hk hs ok
  have hrow : ∀ q, 0 ≤ q → rd (upd row (rd E (rd s j) - 1) j) q = if q = rd E (rd s j) - 1 then j else rd row q := fun q q0 => rd_upd r2 q0 (by rw [h.len]; omega)
  have hEu : ∀ c, 0 ≤ c → rd (upd E (rd s j) (rd E (rd s j) - 1)) c = if c = rd s j then rd E (rd s j) - 1 else rd E c := fun c c0' => rd_upd c0 c0' (by rw [h.elen]; omega)
  refine ⟨by rw [upd_length]; exact h.len, by rw [upd_length]; exact h.elen, fun c d0 dk => ?_, fun c u d0 dk u0 hu => ?_, fun c q d0 dk q1 q2 => ?_⟩
  · rw [hEu c d0]
    by_cases e : c = rd s j
    · rw [if_pos e, e, ofKey_cons_same rfl, h.hE _ c0 ck, List.length_cons]; omega
    · rw [if_neg e, ofKey_cons_other fun h => e h.symm]; exact h.hE c d0 dk
  · rw [hEu c d0]
    have hEc := h.hE c d0 dk
    have hsc := st_succ (s := s) d0 dk
    have hbd := ofKey_bd ok c
    have hnn := st_nonneg (s := s) (k := k) (c := c)
    by_cases e : c = rd s j
    · subst e
      rw [if_pos rfl]
      rw [ofKey_cons_same rfl] at hu hbd ⊢
      rw [List.length_cons] at hu hbd
      rw [hrow _ (by omega)]
      by_cases e2 : u = 0
      · subst e2
        rw [if_pos (by omega)]
        rfl
      · rw [if_neg (by omega)]
        have := h.vals _ (u - 1) c0 ck (by omega) (by omega)
        rw [show rd E (rd s j) - 1 + u = rd E (rd s j) + (u - 1) by omega, this]
        unfold rd
        rw [show u.toNat = (u - 1).toNat + 1 by omega]
        rfl
    · rw [if_neg e]
      rw [ofKey_cons_other fun h => e h.symm] at hu hbd ⊢
      rw [hrow _ (by omega), if_neg, h.vals c u d0 dk u0 hu]
      intro e2
      exact e (bucket_one (s := s) d0 dk c0 ck (q := rd E c + u) (by omega) (by omega) (by omega) (by omega))
  · rw [hEu c d0] at q2
    have hEc := h.hE c d0 dk
    have hnn := st_nonneg (s := s) (k := k) (c := c)
    rw [hrow q (by omega)]
    by_cases e : c = rd s j
    · rw [if_pos e] at q2
      rw [if_neg (by omega)]
      subst e
      exact h.none_ _ q d0 dk q1 (by omega)
    · rw [if_neg e] at q2
      rw [if_neg, h.none_ c q d0 dk q1 q2]
      intro e2
      exact e (bucket_one (s := s) d0 dk c0 ck (q := q) q1 (by omega) (by omega) (by omega))
theorem rd_get {l : List Int} {u : Nat} (h : u < l.length) : rd l (u : Int) = l[u] := by
  unfold rd
  rw [Int.toNat_natCast, List.getD_eq_getElem?_getD, List.getElem?_eq_getElem h]
  rfl
theorem rd_getI {l : List Int} {i : Int} (h0 : 0 ≤ i) (h : i < l.length) : rd l i = l[i.toNat]'(by omega) := by
  unfold rd
  rw [List.getD_eq_getElem?_getD, List.getElem?_eq_getElem (by omega)]
  rfl
theorem pairwise_rd {l : List Int} {r : Int → Int → Prop} (h : l.Pairwise r) {i j : Int} (h0 : 0 ≤ i) (hij : i < j) (hj : j < l.length) : r (rd l i) (rd l j) := by
  rw [rd_getI h0 (by omega), rd_getI (by omega) hj]
  exact List.pairwise_iff_getElem.1 h i.toNat j.toNat (by omega) (by omega) (by omega)
theorem rd_inj {l : List Int} (hd : l.Nodup) {i j : Int} (h0 : 0 ≤ i) (h : i < l.length) (g0 : 0 ≤ j) (g : j < l.length) (e : rd l i = rd l j) : i = j := by
  have hi : i.toNat < l.length := by omega
  have hj : j.toNat < l.length := by omega
  unfold rd at e
  rw [List.getD_eq_getElem?_getD, List.getD_eq_getElem?_getD, List.getElem?_eq_getElem hi, List.getElem?_eq_getElem hj] at e
  simp only [Option.getD_some] at e
  rcases Int.lt_trichotomy i j with a | a | a
  · exact absurd e (List.pairwise_iff_getElem.1 hd i.toNat j.toNat hi hj (by omega))
  · exact a
  · exact absurd e.symm (List.pairwise_iff_getElem.1 hd j.toNat i.toNat hj hi (by omega))
/-- All first ones laid: what the large ones come to. -/
theorem first_done {R : Int → Int → Prop} (hR : RelL s R) (hk : 0 ≤ k) (hs : ∀ x ∈ s, 0 ≤ x ∧ x < k) (h : FirstI s k l row E) (hp : l.Perm (fstL s)) (hσ : ∀ c, (ofKey l s c).Pairwise R) : BaseI s k R (fun c => (ofKey l s c).length) row := by
  have ok := firstOk_of hp
  have hat : ∀ c q, 0 ≤ c → c < k → st s k c ≤ q → q < st s k (c + 1) → (q < rd E c ∧ rd row q = -1) ∨ (rd E c ≤ q ∧ rd row q = rd (ofKey l s c) (q - rd E c) ∧ rd row q ∈ ofKey l s c) := by
    intro c q c0 ck h1 h2
    have hEc := h.hE c c0 ck
    rcases Int.lt_or_le q (rd E c) with a | a
    · exact .inl ⟨a, h.none_ c q c0 ck h1 a⟩
    · have := h.vals c (q - rd E c) c0 ck (by omega) (by omega)
      rw [show rd E c + (q - rd E c) = q by omega] at this
      refine .inr ⟨a, this, ?_⟩
      rw [this]
      exact rd_mem (by omega) (by omega)
  have hmem : ∀ {c x}, x ∈ ofKey l s c → isS s x ∧ rd s x = c ∧ x ∈ l := fun {c x} hx => by
    obtain ⟨h1, h2⟩ := List.mem_filter.1 hx
    rw [decide_eq_true_iff] at h2
    exact ⟨ok.small h1, h2, h1⟩
  have hpos : ∀ q : Int, 0 ≤ q → q < s.length → 0 ≤ rd row q → ∃ c, (0 ≤ c ∧ c < k) ∧ st s k c ≤ q ∧ q < st s k (c + 1) ∧ rd E c ≤ q ∧ rd row q = rd (ofKey l s c) (q - rd E c) ∧ rd row q ∈ ofKey l s c := by
    intro q q0 q1 hq
    obtain ⟨c, ⟨c0, ck⟩, h1, h2⟩ := bucket_of hk hs q0 q1
    rcases hat c q c0 ck h1 h2 with a | a
    · omega
    · exact ⟨c, ⟨c0, ck⟩, h1, h2, a⟩
  refine ⟨h.len, fun c c0 ck => ⟨by omega, by have := ofKey_bd ok c; omega⟩, fun c q c0 ck h1 h2 => ?_, fun c q c0 ck h1 h2 => ?_, fun q r q0 q1 r0 r1 hq e => ?_, fun p p0 p1 hf => ?_, fun x y x0 xy y1 hx hy => ?_⟩
  · have hEc := h.hE c c0 ck
    have hst := st_succ (s := s) c0 ck
    have := ofKey_bd ok c
    rcases hat c q c0 ck (by omega) h2 with a | a
    · omega
    · have := hmem a.2.2
      exact ⟨this.1, this.2.1⟩
  · have hEc := h.hE c c0 ck
    exact h.none_ c q c0 ck h1 (by omega)
  · rw [h.len] at q1 r1
    obtain ⟨c, ⟨c0, ck⟩, h1, h2, h3, h4, h5⟩ := hpos q q0 q1 hq
    obtain ⟨d, ⟨d0, dk⟩, g1, g2, g3, g4, g5⟩ := hpos r r0 r1 (by omega)
    have hcd : c = d := by
      have a := (hmem h5).2.1
      have b := (hmem g5).2.1
      rw [e] at a
      omega
    subst hcd
    have hEc := h.hE c c0 ck
    rw [h4, g4] at e
    have := rd_inj (ok.1.sublist List.filter_sublist : (ofKey l s c).Nodup) (by omega) (by omega) (by omega) (by omega) e
    omega
  · have hpl := hp.symm.subset (mem_fstL.2 ⟨⟨p0, p1⟩, hf⟩)
    obtain ⟨c0, ck⟩ := char_bd hs ⟨p0, p1⟩
    have hpk : p ∈ ofKey l s (rd s p) := List.mem_filter.2 ⟨hpl, by simp⟩
    obtain ⟨u, hu, e⟩ := List.mem_iff_getElem.1 hpk
    have hEc := h.hE _ c0 ck
    have hst := st_succ (s := s) c0 ck
    have hbd := ofKey_bd ok (rd s p)
    have hnn := st_nonneg (s := s) (k := k) (c := rd s p)
    have hle := st_le hk hs (c := rd s p + 1) (by omega) (by omega)
    refine ⟨rd E (rd s p) + u, by omega, by omega, ?_⟩
    rw [h.vals _ u c0 ck (by omega) (by omega), rd_get hu]
    exact e
  · obtain ⟨c, ⟨c0, ck⟩, h1, h2, h3, h4, h5⟩ := hpos x x0 (by omega) hx
    obtain ⟨d, ⟨d0, dk⟩, g1, g2, g3, g4, g5⟩ := hpos y (by omega) y1 hy
    have a := hmem h5
    have b := hmem g5
    rcases Int.lt_trichotomy c d with hcd | hcd | hcd
    · exact hR.char a.1.1 b.1.1 (by omega)
    · subst hcd
      have hEc := h.hE c c0 ck
      rw [h4, g4]
      exact pairwise_rd (hσ c) (by omega) (by omega) (by omega)
    · have := st_mono (s := s) d0 hcd (by omega : c ≤ k)
      omega
/-- The row with its small ones taken away. -/
def noS (s : List Int) (x : Int) : Int := if 0 ≤ x ∧ smB s x = true then -1 else x
theorem cleared (hk : 0 ≤ k) (hs : ∀ x ∈ s, 0 ≤ x ∧ x < k) {R R' : Int → Int → Prop} (hLL : ∀ p q, isL s p → isL s q → R p q → R' p q) {mF : Int → Int} {row0 H V : List Int} (h : LargeI s k R mF row0 row H (CL s row s.length)) (b : BaseI s k R mF row0) (hl : V.length = s.length) (hV : ∀ q : Int, 0 ≤ q → q < s.length → rd V q = noS s (rd row q)) :
    BaseS s k R' (fun c => rd H c) V ∧ ∀ q : Int, 0 ≤ q → q < s.length → ¬ isS s (rd V q) := by
  have hnn : ∀ q : Int, 0 ≤ q → q < s.length → 0 ≤ rd V q → rd V q = rd row q := fun q q0 q1 hq => by
    rw [hV q q0 q1] at hq ⊢
    unfold noS at hq ⊢
    split
    · rename_i e; rw [if_pos e] at hq; omega
    · rfl
  have hL : ∀ q : Int, 0 ≤ q → q < s.length → isL s (rd row q) → rd V q = rd row q := fun q q0 q1 hq => by
    rw [hV q q0 q1]
    unfold noS
    rw [if_neg]
    rintro ⟨_, e⟩
    exact hq.not_S ⟨hq.1, e⟩
  refine ⟨⟨hl, h.hH, fun c q c0 ck h1 h2 => ?_, fun c q c0 ck h1 h2 => ?_, fun q r q0 q1 r0 r1 hq e => ?_, fun p hp => ?_, fun x y x0 xy y1 hx hy => ?_⟩, fun q q0 q1 hq => ?_⟩
  · have h0 := st_nonneg (s := s) (k := k) (c := c)
    have hH := h.hH c c0 ck
    have hr := st_room (b := b) c0 ck
    have hm := b.m0 c c0 ck
    have hle := st_le hk hs (c := c + 1) (by omega) (by omega)
    have := h.placed c q c0 ck h1 h2
    rw [hL q (by omega) (by omega) this.1]
    exact this
  · have h0 := st_nonneg (s := s) (k := k) (c := c)
    have hH := h.hH c c0 ck
    have hle := st_le hk hs (c := c + 1) (by omega) (by omega)
    rw [hV q (by omega) (by omega)]
    unfold noS
    rcases h.at_ b c0 ck (by omega) h2 with a | a | a
    · omega
    · rw [if_pos ⟨a.2.1.1.1, a.2.1.2⟩]
    · rw [a.2, if_neg (by omega)]
  · rw [hl] at q1 r1
    have e1 := hnn q q0 q1 hq
    have e2 := hnn r r0 r1 (by omega)
    exact h.once q r q0 (by rw [h.len]; exact q1) r0 (by rw [h.len]; exact r1) (by omega) (by omega)
  · obtain ⟨q, q0, q1, e⟩ := large_all hk hs h b (s.length - p).toNat p (by omega) hp
    exact ⟨q, q0, q1, by rw [hL q q0 q1 (by rw [e]; exact hp)]; exact e⟩
  · have ex := hnn x x0 (by omega) hx
    have ey := hnn y (by omega) y1 hy
    rw [ex, ey]
    rw [ex] at hx
    rw [ey] at hy
    have hLV : ∀ q : Int, 0 ≤ q → q < s.length → 0 ≤ rd row q → rd V q = rd row q → isL s (rd row q) := fun q q0 q1 hq eV => by
      obtain ⟨c, ⟨c0, ck⟩, h1, h2⟩ := bucket_of hk hs q0 q1
      rcases h.at_ b c0 ck h1 h2 with a | a | a
      · exact a.2.1
      · rw [hV q q0 q1] at eV
        unfold noS at eV
        rw [if_pos ⟨a.2.1.1.1, a.2.1.2⟩] at eV
        omega
      · omega
    exact hLL _ _ (hLV x x0 (by omega) hx ex) (hLV y (by omega) y1 hy ey) (h.sorted x y x0 xy y1 hx hy)
  · have e := hnn q q0 q1 hq.1.1
    rw [e] at hq
    rw [hV q q0 q1] at e
    unfold noS at e
    rw [if_pos ⟨hq.1.1, hq.2⟩] at e
    have := hq.1.1
    omega
/-! all of it, as a function -/
def layF (s : List Int) (j : Int) (z : List Int × List Int) : List Int × List Int := (upd z.1 (rd z.2 (rd s j) - 1) j, upd z.2 (rd s j) (rd z.2 (rd s j) - 1))
def layL (s : List Int) (j : Int) (z : List Int × List Int) : List Int × List Int := (upd z.1 (rd z.2 (rd s j)) j, upd z.2 (rd s j) (rd z.2 (rd s j) + 1))
def stepL (s : List Int) (i : Int) (z : List Int × List Int) : List Int × List Int := if 0 < rd z.1 i ∧ smB s (rd z.1 i - 1) = false then layL s (rd z.1 i - 1) z else z
def stepS (s : List Int) (i : Int) (z : List Int × List Int) : List Int × List Int := if 0 < rd z.1 i ∧ smB s (rd z.1 i - 1) = true then layF s (rd z.1 i - 1) z else z
def endsV (cs : List Int) : List Int := (List.range cs.length).map fun i : Nat => ps cs ((i : Int) + 1)
def itF (s : List Int) (k : Int) (l : List Int) : List Int × List Int := l.foldr (layF s) (List.replicate s.length (-1), endsV (cntV s k))
def itL (s : List Int) (k : Int) (l : List Int) : Nat → List Int × List Int
  | 0 => layL s (s.length - 1) ((itF s k l).1, startsV (cntV s k))
  | i + 1 => stepL s i (itL s k l i)
def clrV (s row : List Int) : List Int := row.map (noS s)
def itS (s : List Int) (k : Int) (l : List Int) : Nat → List Int × List Int
  | 0 => (clrV s (itL s k l s.length).1, endsV (cntV s k))
  | m + 1 => stepS s (s.length - 1 - m) (itS s k l m)
/-- All places, by these first ones. -/
def indS (s : List Int) (k : Int) (l : List Int) : List Int := (itS s k l s.length).1
theorem endsV_len (cs : List Int) : (endsV cs).length = cs.length := by simp [endsV]
theorem rd_endsV {cs : List Int} {i : Int} (h0 : 0 ≤ i) (h : i < cs.length) : rd (endsV cs) i = ps cs (i + 1) := by
  unfold endsV
  rw [rd_range h0 h]
  rw [show ((i.toNat : Nat) : Int) = i by omega]
variable (hk : 0 ≤ k) (hs : ∀ x ∈ s, 0 ≤ x ∧ x < k)
include hk hs in
theorem itF_ok : ∀ {l : List Int}, FirstOk s l → FirstI s k l (itF s k l).1 (itF s k l).2
  | [], _ => first_zero hk hs (by show (endsV _).length = _; rw [endsV_len, cntV_len]) fun c c0 ck => by
    show rd (endsV _) c = _
    rw [rd_endsV c0 (by rw [cntV_len]; omega)]
    rfl
  | j :: l, ok => (itF_ok (l := l) ok.tail).step hk hs ok
section
variable {R R' : Int → Int → Prop} (hR : RelL s R) (hR' : RelS s R') (hLL : ∀ p q, isL s p → isL s q → R p q → R' p q) (hσ : ∀ c, (ofKey l s c).Pairwise R)
include hk hs hR hσ in
theorem itL_rel (hp : l.Perm (fstL s)) (hn : 0 < s.length) : ∀ i : Nat, i ≤ s.length → LargeI s k R (fun c => (ofKey l s c).length) (itF s k l).1 (itL s k l i).1 (itL s k l i).2 (CL s (itL s k l i).1 i)
  | 0, _ => large_start hk hs hR (first_done hR hk hs (itF_ok hk hs (firstOk_of hp)) hp hσ) hn (by rw [startsV_len, cntV_len]) fun c c0 ck => rd_startsV c0 (by rw [cntV_len]; omega)
  | i + 1, hi => by
    have ih := itL_rel hp hn i (by omega)
    have b := first_done hR hk hs (itF_ok hk hs (firstOk_of hp)) hp hσ
    rw [show ((i + 1 : Nat) : Int) = (i : Int) + 1 by omega]
    rw [itL]
    unfold stepL
    split
    · rename_i hc
      exact large_step hk hs hR ih b (by omega) (by omega) hc
    · rename_i hc
      exact large_skip ih hc
theorem rd_clrV {row : List Int} {q : Int} (h0 : 0 ≤ q) (h : q < row.length) : rd (clrV s row) q = noS s (rd row q) := by
  unfold clrV rd
  rw [List.getD_eq_getElem?_getD, List.getD_eq_getElem?_getD, List.getElem?_map, List.getElem?_eq_getElem (by omega)]
  rfl
include hk hs hR hσ hLL in
theorem cleared_rel (hp : l.Perm (fstL s)) (hn : 0 < s.length) : BaseS s k R' (fun c => rd (itL s k l s.length).2 c) (clrV s (itL s k l s.length).1) ∧ ∀ q : Int, 0 ≤ q → q < s.length → ¬ isS s (rd (clrV s (itL s k l s.length).1) q) := by
  have h := itL_rel hk hs hR hσ hp hn s.length (Nat.le_refl _)
  exact cleared hk hs hLL h (first_done hR hk hs (itF_ok hk hs (firstOk_of hp)) hp hσ) (by unfold clrV; rw [List.length_map]; exact h.len) fun q q0 q1 => rd_clrV q0 (by rw [h.len]; exact q1)
include hk hs hR hR' hσ hLL in
theorem itS_rel (hp : l.Perm (fstL s)) (hn : 0 < s.length) : ∀ m : Nat, m ≤ s.length → SmallI s k R' (fun c => rd (itL s k l s.length).2 c) (clrV s (itL s k l s.length).1) (itS s k l m).1 (itS s k l m).2 (CS s (itS s k l m).1 (s.length - m))
  | 0, _ => by
    have b := cleared_rel hk hs hR hLL hσ hp hn
    exact small_start b.1 (by show (endsV _).length = _; rw [endsV_len, cntV_len]) (fun c c0 ck => by
      show rd (endsV _) c = _
      rw [rd_endsV c0 (by rw [cntV_len]; omega)]
      rfl) b.2
  | m + 1, hm => by
    have ih := itS_rel hp hn m (by omega)
    have b := (cleared_rel hk hs hR hLL hσ hp hn).1
    rw [show (s.length : Int) - (m : Nat) = (s.length - 1 - (m : Int)) + 1 by omega] at ih
    rw [show (s.length : Int) - ((m + 1 : Nat) : Int) = s.length - 1 - (m : Int) by omega]
    rw [itS]
    unfold stepS
    split
    · rename_i hc
      exact small_step hk hs hR' ih b (by omega) (by omega) hc
    · rename_i hc
      exact small_skip ih hc
include hk hs hR hR' hσ hLL in
/-- All of it, by any orders that keep what they must. -/
theorem indS_rel (hp : l.Perm (fstL s)) (hn : 0 < s.length) : (indS s k l).Perm (iota s.length) ∧ (∀ q : Int, 0 ≤ q → q + 1 < s.length → rd s (rd (indS s k l) q) ≤ rd s (rd (indS s k l) (q + 1))) ∧ (indS s k l).Pairwise R' := by
  have h := itS_rel hk hs hR hR' hLL hσ hp hn s.length (Nat.le_refl _)
  rw [show (s.length : Int) - (s.length : Nat) = 0 by omega] at h
  exact induced hk hs h (cleared_rel hk hs hR hLL hσ hp hn).1
end
/-- The endings' own order, if the first ones are in it. -/
def RO (s l : List Int) (x y : Int) : Prop := l.Pairwise (ordE s) → ordE s x y
theorem RO_L : RelL s (RO s l) := ⟨fun hp hq h _ => ord_char hp hq h, fun hp hq h _ => ls_ord hp hq h, fun hn q0 hq e _ _ => ord_last hn q0 hq e, fun hp hq p1 q1 e h hσ => ord_back hp.1.1 p1 hq.1.1 q1 e (h hσ)⟩
theorem RO_S : RelS s (RO s l) := ⟨fun hp hq h _ => ord_char hp hq h, fun hp hq h _ => ls_ord hp hq h, fun hp hq p1 q1 e h hσ => ord_back hp.1.1 p1 hq.1.1 q1 e (h hσ)⟩
theorem RO_key (c : Int) : (ofKey l s c).Pairwise (RO s l) := by
  by_cases h : l.Pairwise (ordE s)
  · exact (h.sublist List.filter_sublist : (ofKey l s c).Pairwise (ordE s)).imp fun h _ => h
  · exact List.pairwise_of_forall fun _ _ hσ => absurd hσ h
include hk hs in
theorem first_doneO (hp : l.Perm (fstL s)) : BaseI s k (RO s l) (fun c => (ofKey l s c).length) (itF s k l).1 := first_done RO_L hk hs (itF_ok hk hs (firstOk_of hp)) hp RO_key
include hk hs in
theorem itL_ok (hp : l.Perm (fstL s)) (hn : 0 < s.length) : ∀ i : Nat, i ≤ s.length → LargeI s k (RO s l) (fun c => (ofKey l s c).length) (itF s k l).1 (itL s k l i).1 (itL s k l i).2 (CL s (itL s k l i).1 i) := itL_rel hk hs RO_L RO_key hp hn
include hk hs in
theorem cleared_ok (hp : l.Perm (fstL s)) (hn : 0 < s.length) : BaseS s k (RO s l) (fun c => rd (itL s k l s.length).2 c) (clrV s (itL s k l s.length).1) ∧ ∀ q : Int, 0 ≤ q → q < s.length → ¬ isS s (rd (clrV s (itL s k l s.length).1) q) := cleared_rel hk hs RO_L (fun _ _ _ _ h => h) RO_key hp hn
include hk hs in
theorem itS_ok (hp : l.Perm (fstL s)) (hn : 0 < s.length) : ∀ m : Nat, m ≤ s.length → SmallI s k (RO s l) (fun c => rd (itL s k l s.length).2 c) (clrV s (itL s k l s.length).1) (itS s k l m).1 (itS s k l m).2 (CS s (itS s k l m).1 (s.length - m)) := itS_rel hk hs RO_L RO_S (fun _ _ _ _ h => h) RO_key hp hn
include hk hs in
theorem indS_ok (hp : l.Perm (fstL s)) (hn : 0 < s.length) : (indS s k l).Perm (iota s.length) ∧ (∀ q : Int, 0 ≤ q → q + 1 < s.length → rd s (rd (indS s k l) q) ≤ rd s (rd (indS s k l) (q + 1))) ∧ (l.Pairwise (ordE s) → (indS s k l).Pairwise (ordE s)) := by
  have h := indS_rel hk hs (l := l) RO_L RO_S (fun _ _ _ _ h => h) RO_key hp hn
  exact ⟨h.1, h.2.1, fun hσ => h.2.2.imp fun h => h hσ⟩
end
end Go.Pure
/-
  Plain laws: induced sorting: what a walk asks of each step. Own work.
-/
namespace Go.Pure
open Go Go.Eng
section
variable {s : List Int} {k : Int} {l row E H V : List Int}
theorem itF_step {m : Nat} (hm : m < l.length) : itF s k (l.drop m) = layF s (rd l (m : Int)) (itF s k (l.drop (m + 1))) := by
  unfold itF
  rw [rd_get hm, List.drop_eq_getElem_cons hm, List.foldr_cons]
theorem firstOk_drop (h : FirstOk s l) (m : Nat) : FirstOk s (l.drop m) := ⟨h.1.sublist (List.drop_sublist _ _), fun j hj => h.2 j (List.mem_of_mem_drop hj)⟩
variable (hk : 0 ≤ k) (hs : ∀ x ∈ s, 0 ≤ x ∧ x < k)
include hk hs in
theorem itF_lens (hp : l.Perm (fstL s)) (m : Nat) : (itF s k (l.drop m)).1.length = s.length ∧ (itF s k (l.drop m)).2.length = k.toNat := by
  have h := itF_ok hk hs (firstOk_drop (firstOk_of hp) m)
  exact ⟨h.len, h.elen⟩
include hk hs in
/-- One of the first ones is laid. -/
theorem fF (hp : l.Perm (fstL s)) {m : Nat} (hm : m < l.length) (hr : row = (itF s k (l.drop (m + 1))).1) (hE : E = (itF s k (l.drop (m + 1))).2) :
    (0 ≤ rd l (m : Int) ∧ rd l (m : Int) < s.length) ∧ (0 ≤ rd s (rd l (m : Int)) ∧ rd s (rd l (m : Int)) < k) ∧ (0 ≤ rd E (rd s (rd l (m : Int))) - 1 ∧ rd E (rd s (rd l (m : Int))) - 1 < s.length) ∧ (row.length = s.length ∧ E.length = k.toNat) ∧
    upd row (rd E (rd s (rd l (m : Int))) - 1) (rd l (m : Int)) = (itF s k (l.drop m)).1 ∧ upd E (rd s (rd l (m : Int))) (rd E (rd s (rd l (m : Int))) - 1) = (itF s k (l.drop m)).2 := by
  have ok := firstOk_of hp
  have h := itF_ok hk hs (firstOk_drop ok (m + 1))
  have ok2 : FirstOk s (rd l (m : Int) :: l.drop (m + 1)) := by
    have := firstOk_drop ok m
    rwa [List.drop_eq_getElem_cons hm, ← rd_get hm] at this
  have r := h.room hk hs ok2
  rw [itF_step hm]
  subst hr
  subst hE
  exact ⟨(ok2.2 _ (by simp)).1, r.2.2.1, r.2.1, ⟨h.len, h.elen⟩, rfl, rfl⟩
include hk hs in
/-- The last place is laid first. -/
theorem fL0 (hp : l.Perm (fstL s)) (hn : 0 < s.length) (hr : row = (itF s k l).1) (hH : H = startsV (cntV s k)) :
    (0 ≤ rd s ((s.length : Int) - 1) ∧ rd s ((s.length : Int) - 1) < k) ∧ (0 ≤ rd H (rd s ((s.length : Int) - 1)) ∧ rd H (rd s ((s.length : Int) - 1)) < s.length) ∧ (row.length = s.length ∧ H.length = k.toNat) ∧
    upd row (rd H (rd s ((s.length : Int) - 1))) ((s.length : Int) - 1) = (itL s k l 0).1 ∧ upd H (rd s ((s.length : Int) - 1)) (rd H (rd s ((s.length : Int) - 1)) + 1) = (itL s k l 0).2 ∧ smB s ((s.length : Int) - 1) = false := by
  have h := itF_ok hk hs (firstOk_of hp)
  have hc := char_bd hs (p := (s.length : Int) - 1) (by omega)
  have hst : rd H (rd s ((s.length : Int) - 1)) = st s k (rd s ((s.length : Int) - 1)) := by rw [hH, rd_startsV hc.1 (by rw [cntV_len]; omega)]; rfl
  have h1 := st_nonneg (s := s) (k := k) (c := rd s ((s.length : Int) - 1))
  have h2 := st_succ (s := s) hc.1 hc.2
  have h3 := st_le hk hs (c := rd s ((s.length : Int) - 1) + 1) (by omega) (by omega)
  have hl : isL s ((s.length : Int) - 1) := ⟨by omega, smB_last (by omega) (by omega)⟩
  have h4 : 0 < (posL s (rd s ((s.length : Int) - 1))).length := List.length_pos_of_mem (mem_posL.2 ⟨hl, rfl⟩)
  have hsm := hl.2
  subst hr
  subst hH
  exact ⟨hc, by omega, ⟨h.len, by rw [startsV_len, cntV_len]⟩, rfl, rfl, hsm⟩
include hk hs in
theorem fLe (hp : l.Perm (fstL s)) (hn : 0 < s.length) {i : Nat} (hi : i < s.length) (hr : row = (itL s k l i).1) (hH : H = (itL s k l i).2) :
    (rd row (i : Int) = -1 ∨ (0 ≤ rd row (i : Int) ∧ rd row (i : Int) < s.length)) ∧ (row.length = s.length ∧ H.length = k.toNat) := by
  have h := itL_ok hk hs hp hn i (by omega)
  have b := first_doneO hk hs hp
  subst hr
  subst hH
  exact ⟨h.entry hk hs b (by omega) (by omega), h.len, h.hlen⟩
include hk hs in
/-- A large one is laid. -/
theorem fL (hp : l.Perm (fstL s)) (hn : 0 < s.length) {i : Nat} (hi : i < s.length) (hr : row = (itL s k l i).1) (hH : H = (itL s k l i).2) (hc : 0 < rd row (i : Int) ∧ smB s (rd row (i : Int) - 1) = false) :
    rd row (i : Int) < s.length ∧ (0 ≤ rd s (rd row (i : Int) - 1) ∧ rd s (rd row (i : Int) - 1) < k) ∧ (0 ≤ rd H (rd s (rd row (i : Int) - 1)) ∧ rd H (rd s (rd row (i : Int) - 1)) < s.length) ∧
    upd row (rd H (rd s (rd row (i : Int) - 1))) (rd row (i : Int) - 1) = (itL s k l (i + 1)).1 ∧ upd H (rd s (rd row (i : Int) - 1)) (rd H (rd s (rd row (i : Int) - 1)) + 1) = (itL s k l (i + 1)).2 := by
  have h := itL_ok hk hs hp hn i (by omega)
  have b := first_doneO hk hs hp
  subst hr
  subst hH
  obtain ⟨h1, h2, h3, _⟩ := large_new hk hs h b (by omega) (by omega) hc
  have hb := char_bd hs h1.1
  have hr := h.room hk hs b h1 h2
  have h4 := (h.hH _ hb.1 hb.2).1
  have h5 := st_nonneg (s := s) (k := k) (c := rd s (rd (itL s k l i).1 (i : Int) - 1))
  have h6 := st_le hk hs (c := rd s (rd (itL s k l i).1 (i : Int) - 1) + 1) (by omega) (by omega)
  have h7 := st_succ (s := s) hb.1 hb.2
  refine ⟨h3, hb, ⟨by omega, by omega⟩, ?_, ?_⟩
  · rw [itL, stepL, if_pos hc]; rfl
  · rw [itL, stepL, if_pos hc]; rfl
theorem fLs {i : Nat} (hr : row = (itL s k l i).1) (hH : H = (itL s k l i).2) (hc : ¬ (0 < rd row (i : Int) ∧ smB s (rd row (i : Int) - 1) = false)) : row = (itL s k l (i + 1)).1 ∧ H = (itL s k l (i + 1)).2 := by
  subst hr
  subst hH
  rw [itL, stepL, if_neg hc]
  exact ⟨rfl, rfl⟩
/-- The small ones are taken out, so far. -/
def clrP (s row : List Int) (i : Int) : List Int := (row.take i.toNat).map (noS s) ++ row.drop i.toNat
theorem clrP_zero : clrP s row 0 = row := by simp [clrP]
theorem clrP_len (i : Int) : (clrP s row i).length = row.length := by simp [clrP]; omega
theorem clrP_all {i : Int} (h : (row.length : Int) ≤ i) : clrP s row i = clrV s row := by
  unfold clrP clrV
  rw [List.take_of_length_le (by omega), List.drop_of_length_le (by omega), List.append_nil]
theorem rd_clrP {i q : Int} (q0 : 0 ≤ q) (hq : i ≤ q) (h0 : 0 ≤ i) (hl : i ≤ row.length) : rd (clrP s row i) q = rd row q := by
  unfold clrP rd
  rw [List.getD_eq_getElem?_getD, List.getD_eq_getElem?_getD, List.getElem?_append_right (by simp; omega), List.getElem?_drop]
  simp only [List.length_map, List.length_take]
  congr 2
  omega
theorem clrP_step {i : Int} (h0 : 0 ≤ i) (hi : i < row.length) : clrP s row (i + 1) = upd (clrP s row i) i (noS s (rd row i)) := by
  unfold clrP upd
  have hlt : i.toNat < row.length := by omega
  rw [show (i + 1).toNat = i.toNat + 1 by omega, List.take_add_one, List.getElem?_eq_getElem hlt, List.set_append_right _ _ (by simp; omega), List.map_append]
  simp only [List.length_map, List.length_take, Option.toList_some, List.map_cons, List.map_nil, List.append_assoc, List.singleton_append]
  congr 1
  rw [show i.toNat - min i.toNat row.length = 0 by omega, List.drop_eq_getElem_cons hlt, List.set_cons_zero, rd_getI h0 hi]
theorem clr_yes {i : Int} (h0 : 0 ≤ i) (hi : i < row.length) (h : 0 ≤ rd (clrP s row i) i ∧ smB s (rd (clrP s row i) i) = true) : upd (clrP s row i) i (-1) = clrP s row (i + 1) := by
  rw [rd_clrP h0 (Int.le_refl _) h0 (by omega)] at h
  rw [clrP_step h0 hi, noS, if_pos h]
theorem upd_self {l : List Int} {i : Int} (h0 : 0 ≤ i) (hi : i < l.length) : upd l i (rd l i) = l := by
  unfold upd
  rw [rd_getI h0 hi, List.set_getElem_self]
theorem clr_no {i : Int} (h0 : 0 ≤ i) (hi : i < row.length) (h : ¬ (0 ≤ rd (clrP s row i) i ∧ smB s (rd (clrP s row i) i) = true)) : clrP s row i = clrP s row (i + 1) := by
  have e := rd_clrP (s := s) (row := row) h0 (Int.le_refl _) h0 (by omega : i ≤ (row.length : Int))
  rw [e] at h
  rw [clrP_step h0 hi, noS, if_neg h]
  have := upd_self (l := clrP s row i) h0 (by rw [clrP_len]; exact hi)
  rw [e] at this
  exact this.symm
include hk hs in
theorem clr_mem (hp : l.Perm (fstL s)) (hn : 0 < s.length) {q : Int} (q0 : 0 ≤ q) (hq : q < s.length) : rd (itL s k l s.length).1 q = -1 ∨ (0 ≤ rd (itL s k l s.length).1 q ∧ rd (itL s k l s.length).1 q < s.length) :=
  (itL_ok hk hs hp hn s.length (Nat.le_refl _)).entry hk hs (first_doneO hk hs hp) q0 hq
include hk hs in
theorem itL_len (hp : l.Perm (fstL s)) (hn : 0 < s.length) : (itL s k l s.length).1.length = s.length := (itL_ok hk hs hp hn s.length (Nat.le_refl _)).len
include hk hs in
theorem fSe (hp : l.Perm (fstL s)) (hn : 0 < s.length) {m : Nat} (hm : m < s.length) {i : Int} (hi : i = s.length - 1 - (m : Int)) (hr : row = (itS s k l m).1) (hE : E = (itS s k l m).2) :
    (rd row i = -1 ∨ (0 ≤ rd row i ∧ rd row i < s.length)) ∧ (row.length = s.length ∧ E.length = k.toNat) := by
  have h := itS_ok hk hs hp hn m (by omega)
  have b := (cleared_ok hk hs hp hn).1
  subst hr
  subst hE
  exact ⟨h.entry hk hs b (by omega) (by omega), h.len, h.elen⟩
include hk hs in
/-- A small one is laid. -/
theorem fS (hp : l.Perm (fstL s)) (hn : 0 < s.length) {m : Nat} (hm : m < s.length) {i : Int} (hi : i = s.length - 1 - (m : Int)) (hr : row = (itS s k l m).1) (hE : E = (itS s k l m).2) (hc : 0 < rd row i ∧ smB s (rd row i - 1) = true) :
    rd row i < s.length ∧ (0 ≤ rd s (rd row i - 1) ∧ rd s (rd row i - 1) < k) ∧ (0 ≤ rd E (rd s (rd row i - 1)) - 1 ∧ rd E (rd s (rd row i - 1)) - 1 < s.length) ∧
    upd row (rd E (rd s (rd row i - 1)) - 1) (rd row i - 1) = (itS s k l (m + 1)).1 ∧ upd E (rd s (rd row i - 1)) (rd E (rd s (rd row i - 1)) - 1) = (itS s k l (m + 1)).2 := by
  have h := itS_ok hk hs hp hn m (by omega)
  have b := (cleared_ok hk hs hp hn).1
  subst hr
  subst hE
  have hcs : CS s (itS s k l m).1 (s.length - (m : Int)) = CS s (itS s k l m).1 (i + 1) := by rw [hi]; congr 1; omega
  rw [hcs] at h
  obtain ⟨h1, h2, h3, _⟩ := small_new hk hs h b (by omega) (by omega) hc
  have hb := char_bd hs h1.1
  have hr := h.room hk hs b h1 h2
  have h4 := h.hE _ hb.1 hb.2
  have h5 := st_nonneg (s := s) (k := k) (c := rd s (rd (itS s k l m).1 i - 1))
  have h6 := st_le hk hs (c := rd s (rd (itS s k l m).1 i - 1) + 1) (by omega) (by omega)
  have h7 := st_succ (s := s) hb.1 hb.2
  refine ⟨h3, hb, ⟨by omega, by omega⟩, ?_, ?_⟩
  · rw [itS, stepS, ← hi, if_pos hc]; rfl
  · rw [itS, stepS, ← hi, if_pos hc]; rfl
theorem fSs {m : Nat} {i : Int} (hi : i = s.length - 1 - (m : Int)) (hr : row = (itS s k l m).1) (hE : E = (itS s k l m).2) (hc : ¬ (0 < rd row i ∧ smB s (rd row i - 1) = true)) : row = (itS s k l (m + 1)).1 ∧ E = (itS s k l (m + 1)).2 := by
  subst hr
  subst hE
  rw [itS, stepS, ← hi, if_neg hc]
  exact ⟨rfl, rfl⟩
include hk hs in
theorem indS_len (hp : l.Perm (fstL s)) : (indS s k l).length = s.length := by
  rcases Nat.eq_zero_or_pos s.length with h | h
  · have e : s = [] := List.eq_nil_of_length_eq_zero h
    subst e
    have hl : l = [] := List.eq_nil_of_length_eq_zero (by rw [hp.length_eq]; rfl)
    subst hl
    simp [indS, itS, clrV, itL, layL, itF, upd]
  · rw [(indS_ok hk hs hp h).1.length_eq, iota_len]
theorem indS_nil (hl : l.Perm (fstL [])) : indS [] k l = [] := by
  have hl : l = [] := List.eq_nil_of_length_eq_zero (by rw [hl.length_eq]; rfl)
  subst hl
  simp [indS, itS, clrV, itL, layL, itF, upd]
/-- Of each place whether it is small. -/
def smL (s : List Int) : List Bool := (List.range s.length).map fun i : Nat => smB s (i : Int)
theorem smL_len (s : List Int) : (smL s).length = s.length := by simp [smL]
theorem rdb_smL {i : Int} (h0 : 0 ≤ i) (hi : i < s.length) : rdb (smL s) i = smB s i := by
  unfold rdb smL
  rw [List.getD_eq_getElem?_getD, List.getElem?_map, List.getElem?_range (by omega)]
  simp only [Option.map_some, Option.getD_some]
  congr 1
  omega
/-- As it is made from its end. -/
theorem smL_of {m : List Bool} (hl : m.length = s.length) (h : ∀ j : Int, 0 ≤ j → j < s.length → rdb m j = smB s j) : m = smL s :=
  bools_ext (by rw [hl, smL_len]) fun i h0 h1 => by rw [rdb_smL h0 (by omega)]; exact h i h0 (by omega)
theorem sm_step {m : List Bool} {i : Int} {b : Bool} (h0 : 0 ≤ i) (hi : i + 1 < s.length) (hl : m.length = s.length) (h : ∀ j : Int, i < j → j < s.length → rdb m j = smB s j) (hb : b = true ↔ rd s i < rd s (i + 1) ∨ rd s i = rd s (i + 1) ∧ rdb m (i + 1) = true) : ∀ j : Int, i - 1 < j → j < s.length → rdb (updB m i b) j = smB s j := by
  intro j h1 h2
  rw [rdb_upd h0 (by omega) (by omega)]
  split
  · rename_i e
    subst e
    rw [h (j + 1) (by omega) (by omega), ← smB_step h0 hi] at hb
    cases b <;> cases hh : smB s j <;> simp_all
  · exact h j (by omega) h2
theorem smL_take {m : List Bool} {i : Int} (h0 : 0 ≤ i) (hi : i < s.length) (hm : m = (smL s).take i.toNat) : m ++ [decide (cmpL (s.drop i.toNat) (s.drop (i + 1).toNat) < 0)] = (smL s).take (i + 1).toNat := by
  subst hm
  rw [show (i + 1).toNat = i.toNat + 1 by omega, List.take_add_one, smL, List.getElem?_map, List.getElem?_range (by omega)]
  simp only [Option.map_some, Option.toList_some, List.append_cancel_left_eq, List.cons.injEq, and_true]
  rw [show ((i.toNat : Nat) : Int) = i by omega]
  unfold smB
  rw [show (i + 1).toNat = i.toNat + 1 by omega]
/-- The first ones, so far. -/
def fstP (s : List Int) (i : Int) : List Int := (iota i.toNat).filter fun i => fstB s i
theorem fstP_all : fstP s s.length = fstL s := by unfold fstP fstL; rw [Int.toNat_natCast]
theorem fstP_step {i : Int} (h0 : 0 ≤ i) : fstP s (i + 1) = fstP s i ++ (if fstB s i = true then [i] else []) := by
  unfold fstP
  rw [iota_succ h0, List.filter_append]
  congr 1
  by_cases h : fstB s i = true
  · rw [if_pos h, List.filter_cons_of_pos h]; rfl
  · rw [if_neg h, List.filter_cons_of_neg h]; rfl
theorem fstP_len (i : Int) : (fstP s i).length ≤ i.toNat := by
  unfold fstP
  refine Nat.le_trans (List.length_filter_le _ _) ?_
  rw [iota_len]
  exact Nat.le_refl _
theorem fstL_len : (fstL s).length ≤ s.length := by rw [← fstP_all]; have := fstP_len (s := s) s.length; omega
end
end Go.Pure
