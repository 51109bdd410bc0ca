/- Several texts of our own in one: Q28, Q29. -/
import Derived.Test.YtdfcnalkdlifiaaQ27
/-
  Plain laws: what stands ahead of the endings, and back. Own work.
-/
namespace Go.Pure
open Go Go.Eng
/-- Of a row in order, each has so many ahead of it. -/
theorem rank_sorted {T : Int → Int → Prop} [DecidableRel T] (asy : ∀ x y, T x y → ¬ T y x) : ∀ {o : List Int} {q : Nat}, o.Pairwise T → (h : q < o.length) → o.countP (fun x => decide (T x o[q])) = q
  | [], q, _, h => by simp at h
  | a :: o, 0, hs, h => by
    rw [List.countP_eq_zero]
    intro x hx
    simp only [List.getElem_cons_zero, decide_eq_true_iff]
    rcases List.mem_cons.1 hx with rfl | hx
    · exact fun h => asy _ _ h h
    · exact asy _ _ ((List.pairwise_cons.1 hs).1 x hx)
  | a :: o, q + 1, hs, h => by
    obtain ⟨h1, h2⟩ := List.pairwise_cons.1 hs
    have hq : q < o.length := by simp only [List.length_cons] at h; omega
    simp only [List.getElem_cons_succ]
    rw [List.countP_cons_of_pos (by simpa using h1 _ (List.getElem_mem hq)), rank_sorted asy h2 hq]
theorem rank_at {T : Int → Int → Prop} [DecidableRel T] (asy : ∀ x y, T x y → ¬ T y x) {o : List Int} {n : Nat} (hp : o.Perm (iota n)) (hs : o.Pairwise T) {q : Int} (q0 : 0 ≤ q) (hq : q < n) : (((iota n).countP fun x => decide (T x (rd o q)) : Nat) : Int) = q := by
  have hl : o.length = n := by rw [hp.length_eq, iota_len]
  rw [← hp.countP_eq, rd_getI q0 (by omega), rank_sorted asy hs (by omega)]
  omega
theorem rd_iota {n : Nat} {q : Int} (q0 : 0 ≤ q) (hq : q < n) : rd (iota n) q = q := by
  unfold iota
  rw [rd_range q0 hq]
  omega
theorem bij_perm {n : Nat} {f : Int → Int} (hf : ∀ x : Int, 0 ≤ x → x < n → 0 ≤ f x ∧ f x < n) (hi : ∀ x y : Int, 0 ≤ x → x < n → 0 ≤ y → y < n → f x = f y → x = y) : ((iota n).map f).Perm (iota n) := by
  refine perm_all ?_ (fun x hx => ?_) (by simp)
  · refine List.pairwise_map.2 (List.Pairwise.imp_of_mem (fun {a b} ha hb hab e => ?_) (iota_nodup n))
    have h1 := mem_iota.1 ha
    have h2 := mem_iota.1 hb
    exact hab (hi a b h1.1 h1.2 h2.1 h2.2 e)
  · obtain ⟨y, hy, rfl⟩ := List.mem_map.1 hx
    have h := mem_iota.1 hy
    exact mem_iota.2 (hf y h.1 h.2)
/-- Places told by their ranks have so many ahead of them. -/
theorem bij_rank {n : Nat} {f : Int → Int} (hf : ∀ x : Int, 0 ≤ x → x < n → 0 ≤ f x ∧ f x < n) (hi : ∀ x y : Int, 0 ≤ x → x < n → 0 ≤ y → y < n → f x = f y → x = y) {k : Int} (k0 : 0 ≤ k) (hk : k < n) : (((iota n).countP fun j => decide (f j < f k) : Nat) : Int) = f k := by
  have h1 := hf k k0 hk
  have h2 := rank_at (T := (· < ·)) (fun x y h => by omega) (List.Perm.refl (iota n)) (iota_inc n) h1.1 h1.2
  rw [rd_iota h1.1 h1.2] at h2
  have h3 := (bij_perm hf hi).countP_eq (fun x => decide (x < f k))
  rw [List.countP_map] at h3
  rw [← h3] at h2
  exact h2
/-! from the last letters to the first -/
/-- The order of letters: by the letter, then by the place. -/
def tl (l : List Int) (i k : Int) : Prop := rd l i < rd l k ∨ rd l i = rd l k ∧ i < k
instance (l : List Int) : DecidableRel (tl l) := fun i k => by unfold tl; infer_instance
theorem tl_as {l : List Int} (x y : Int) (h : tl l x y) : ¬ tl l y x := by unfold tl at *; omega
def lfC (l : List Int) (k : Int) : Int := ((iota l.length).countP fun j => decide (tl l j k) : Nat)
def Byt (l : List Int) : Prop := ∀ x ∈ l, 0 ≤ x ∧ x < 256
section
variable {l : List Int}
theorem lf_order (hl : Byt l) : (passK (iota l.length) l 256).Perm (iota l.length) ∧ (passK (iota l.length) l 256).Pairwise (tl l) :=
  ⟨passK_perm fun i hi => by have h := mem_iota.1 hi; exact hl _ (rd_mem h.1 h.2), passK_sorted (iota_inc _) 256⟩
theorem lf_at (hl : Byt l) {q : Int} (q0 : 0 ≤ q) (hq : q < l.length) : lfC l (rd (passK (iota l.length) l 256) q) = q := rank_at tl_as (lf_order hl).1 (lf_order hl).2 q0 hq
theorem lf_ix (hl : Byt l) {i : Int} (i0 : 0 ≤ i) (hi : i < l.length) : ∃ q : Int, 0 ≤ q ∧ q < l.length ∧ rd (passK (iota l.length) l 256) q = i ∧ lfC l i = q := by
  obtain ⟨u, hu, e⟩ := List.mem_iff_getElem.1 ((lf_order hl).1.symm.subset (mem_iota.2 ⟨i0, hi⟩))
  have hlen := (lf_order hl).1.length_eq
  rw [iota_len] at hlen
  have e2 : rd (passK (iota l.length) l 256) (u : Int) = i := by rw [rd_get hu]; exact e
  refine ⟨u, by omega, by omega, e2, ?_⟩
  rw [← e2]
  exact lf_at hl (by omega) (by omega)
theorem lf_bd (hl : Byt l) {i : Int} (i0 : 0 ≤ i) (hi : i < l.length) : 0 ≤ lfC l i ∧ lfC l i < l.length := by
  obtain ⟨q, q0, q1, _, e⟩ := lf_ix hl i0 hi
  omega
theorem lf_lt (hl : Byt l) {i k : Int} (i0 : 0 ≤ i) (hi : i < l.length) (k0 : 0 ≤ k) (hk : k < l.length) : lfC l i < lfC l k ↔ tl l i k := by
  obtain ⟨p, p0, p1, ep, fp⟩ := lf_ix hl i0 hi
  obtain ⟨q, q0, q1, eq, fq⟩ := lf_ix hl k0 hk
  have hlen := (lf_order hl).1.length_eq
  rw [iota_len] at hlen
  have hs := (lf_order hl).2
  rw [fp, fq]
  constructor
  · intro h
    have := pairwise_rd hs p0 h (by omega)
    rwa [ep, eq] at this
  · intro h
    rcases Int.lt_trichotomy p q with a | a | a
    · exact a
    · subst a
      rw [← ep, ← eq] at h
      exact absurd h (tl_as _ _ h)
    · have := pairwise_rd hs q0 a (by omega)
      rw [ep, eq] at this
      exact absurd h (tl_as _ _ this)
theorem lf_inj (hl : Byt l) {i k : Int} (i0 : 0 ≤ i) (hi : i < l.length) (k0 : 0 ≤ k) (hk : k < l.length) (e : lfC l i = lfC l k) : i = k := by
  have h1 := lf_lt hl i0 hi k0 hk
  have h2 := lf_lt hl k0 hk i0 hi
  unfold tl at h1 h2
  rcases Int.lt_trichotomy (rd l i) (rd l k) with a | a | a
  · have := h1.2 (.inl a); omega
  · rcases Int.lt_trichotomy i k with b | b | b
    · have := h1.2 (.inr ⟨a, b⟩); omega
    · exact b
    · have := h2.2 (.inr ⟨a.symm, b⟩); omega
  · have := h2.2 (.inl a); omega
/-! turned -/
/-- The row of the whole text. -/
def zat (a : List Int) : Int := if (0 : Int) ∈ a then (a.idxOf 0 : Int) + 1 else 0
def ofT (s a : List Int) : List Int := (a.filter fun x => decide (x ≠ 0)).map fun x => rd s (x - 1)
/-- The letters ahead of the endings. -/
def ofL (s a : List Int) : List Int := (if 0 < s.length then [rd s (s.length - 1)] else []) ++ ofT s a
theorem zat_nil : zat [] = 0 := rfl
theorem zat_step {a : List Int} (hd : a.Nodup) {i : Int} (i0 : 0 ≤ i) (hi : i < a.length) : zat (a.take (i + 1).toNat) = if rd a i = 0 then i + 1 else zat (a.take i.toNat) := by
  rw [take_rd i0 hi]
  split
  · rename_i e
    have hno : (0 : Int) ∉ a.take i.toNat := by
      intro h
      obtain ⟨q, hq, e2⟩ := List.mem_iff_getElem.1 h
      rw [List.length_take] at hq
      have := rd_inj hd (i := (q : Int)) (j := i) (by omega) (by omega) i0 hi (by rw [List.getElem_take] at e2; rw [e, rd_getI (by omega) (by omega)]; simp only [Int.toNat_natCast]; exact e2)
      omega
    unfold zat
    rw [if_pos (by simp [e]), List.idxOf_append, if_neg hno, e]
    simp only [List.length_take, List.idxOf_cons_self]
    omega
  · rename_i e
    have hno : (0 : Int) ∉ [rd a i] := by simp; exact fun h => e h.symm
    unfold zat
    by_cases h : (0 : Int) ∈ a.take i.toNat
    · rw [if_pos h, if_pos (List.mem_append_left _ h), List.idxOf_append, if_pos h]
    · rw [if_neg h, if_neg (by rw [List.mem_append]; exact fun g => g.elim h hno)]
theorem ofT_step {s a : List Int} {i : Int} (i0 : 0 ≤ i) (hi : i < a.length) : ofT s (a.take (i + 1).toNat) = ofT s (a.take i.toNat) ++ if rd a i = 0 then [] else [rd s (rd a i - 1)] := by
  unfold ofT
  rw [take_rd i0 hi, List.filter_append, List.map_append]
  congr 1
  by_cases h : rd a i = 0
  · rw [if_pos h, List.filter_cons_of_neg (by simpa using h)]; rfl
  · rw [if_neg h, List.filter_cons_of_pos (by simpa using h)]; rfl
variable {s a : List Int}
theorem rd_append_l {u v : List Int} {j : Int} (h0 : 0 ≤ j) (h : j < u.length) : rd (u ++ v) j = rd u j := by
  unfold rd
  rw [List.getD_eq_getElem?_getD, List.getD_eq_getElem?_getD, List.getElem?_append_left (by omega)]
theorem rd_append_r {u v : List Int} {j : Int} (h : (u.length : Int) ≤ j) : rd (u ++ v) j = rd v (j - u.length) := by
  unfold rd
  rw [List.getD_eq_getElem?_getD, List.getD_eq_getElem?_getD, List.getElem?_append_right (by omega), show j.toNat - u.length = (j - u.length).toNat by omega]
theorem rd_map {u : List Int} {f : Int → Int} {j : Int} (h0 : 0 ≤ j) (h : j < u.length) : rd (u.map f) j = f (rd u j) := by
  rw [rd_getI h0 (by rw [List.length_map]; exact h), List.getElem_map, ← rd_getI h0 h]
/-- The letter of a row that is not the whole text's. -/
theorem of_facts (hp : a.Perm (iota s.length)) : (ofL s a).length = s.length ∧ (0 < s.length → 1 ≤ zat a ∧ zat a ≤ s.length ∧ rd a (zat a - 1) = 0) ∧ (s.length = 0 → zat a = 0) ∧
    ∀ j : Int, 0 ≤ j → j < s.length → rd (ofL s a) j = if j = 0 then rd s (s.length - 1) else if j < zat a then rd s (rd a (j - 1) - 1) else rd s (rd a j - 1) := by
  have hl : a.length = s.length := by rw [hp.length_eq, iota_len]
  rcases Nat.eq_zero_or_pos s.length with hz | hn
  · have e : a = [] := List.eq_nil_of_length_eq_zero (by omega)
    subst e
    refine ⟨by unfold ofL ofT; rw [if_neg (by omega)]; simp; omega, fun h => by omega, fun _ => rfl, fun j h0 h => by omega⟩
  have hnd : a.Nodup := hp.symm.nodup (iota_nodup _)
  have hmem : (0 : Int) ∈ a := hp.symm.subset (mem_iota.2 ⟨Int.le_refl 0, by omega⟩)
  obtain ⟨a1, a2, e⟩ := List.append_of_mem hmem
  have hd1 : (0 : Int) ∉ a1 := fun h => by
    rw [e] at hnd
    exact (List.nodup_append.1 hnd).2.2 0 h 0 (by simp) rfl
  have hd2 : (0 : Int) ∉ a2 := fun h => by
    rw [e] at hnd
    exact (List.nodup_cons.1 (List.nodup_append.1 hnd).2.1).1 h
  have hzat : zat a = (a1.length : Int) + 1 := by
    unfold zat
    rw [if_pos hmem, e, List.idxOf_append, if_neg hd1]
    simp
  have hT : ofT s a = (a1.map fun x => rd s (x - 1)) ++ a2.map fun x => rd s (x - 1) := by
    unfold ofT
    have f1 : a1.filter (fun x => decide (x ≠ 0)) = a1 := List.filter_eq_self.2 fun x hx => decide_eq_true fun h => hd1 (by rw [← h]; exact hx)
    have f2 : a2.filter (fun x => decide (x ≠ 0)) = a2 := List.filter_eq_self.2 fun x hx => decide_eq_true fun h => hd2 (by rw [← h]; exact hx)
    rw [e, List.filter_append, List.filter_cons_of_neg (by simp), f1, f2, List.map_append]
  have hlen : a1.length + a2.length + 1 = s.length := by rw [← hl, e]; simp; omega
  have hL : ofL s a = rd s (s.length - 1) :: ((a1.map fun x => rd s (x - 1)) ++ a2.map fun x => rd s (x - 1)) := by
    unfold ofL
    rw [if_pos hn, hT]
    rfl
  refine ⟨by rw [hL]; simp; omega, fun _ => ⟨by omega, by omega, ?_⟩, fun h => by omega, fun j j0 j1 => ?_⟩
  · rw [hzat, e, rd_append_r (by omega), show (a1.length : Int) + 1 - 1 - a1.length = 0 by omega]
    rfl
  · rw [hL]
    by_cases hj : j = 0
    · subst hj; rw [if_pos rfl]; rfl
    · rw [if_neg hj]
      have ec : rd (rd s (s.length - 1) :: ((a1.map fun x => rd s (x - 1)) ++ a2.map fun x => rd s (x - 1))) j = rd ((a1.map fun x => rd s (x - 1)) ++ a2.map fun x => rd s (x - 1)) (j - 1) := by
        unfold rd
        rw [show j.toNat = (j - 1).toNat + 1 by omega]
        rfl
      rw [ec]
      split
      · rename_i h
        rw [rd_append_l (by omega) (by rw [List.length_map]; omega), rd_map (by omega) (by omega), e, rd_append_l (by omega) (by omega)]
      · rename_i h
        rw [rd_append_r (by rw [List.length_map]; omega), rd_map (by rw [List.length_map]; omega) (by rw [List.length_map]; omega), e, rd_append_r (by omega)]
        rw [List.length_map]
        have : rd ((0 : Int) :: a2) (j - a1.length) = rd a2 (j - 1 - a1.length) := by
          unfold rd
          rw [show (j - a1.length).toNat = (j - 1 - a1.length).toNat + 1 by omega]
          rfl
        rw [this]
/-! back -/
/-- The index of the letter of a row. -/
def ixr (m r : Int) : Int := if m < r then r - 1 else r
def bkRow (l : List Int) (m : Int) : Nat → Int
  | 0 => 0
  | t + 1 => lfC l (ixr m (bkRow l m t)) + 1
/-- The letters, from the first. -/
def bkOut (l : List Int) (m : Int) : List Int := (List.range l.length).map fun i : Nat => rd l (ixr m (bkRow l m (l.length - 1 - i)))
def BkPre (l : List Int) (m : Int) : Prop := min (l.length : Int) 1 ≤ m ∧ m ≤ l.length
def BkOn (l : List Int) (m : Int) : Prop := ∀ t : Nat, t < l.length → bkRow l m t ≠ m
def BkOk (l : List Int) (m : Int) : Prop := BkPre l m ∧ BkOn l m ∧ bkRow l m l.length = m
theorem bkOut_len (l : List Int) (m : Int) : (bkOut l m).length = l.length := by simp [bkOut]
theorem rd_bkOut {m i : Int} (i0 : 0 ≤ i) (hi : i < l.length) : rd (bkOut l m) i = rd l (ixr m (bkRow l m (l.length - 1 - i).toNat)) := by
  unfold bkOut
  rw [rd_range i0 hi, show l.length - 1 - i.toNat = ((l.length : Int) - 1 - i).toNat by omega]
theorem ixr_bd {m r : Int} {n : Nat} (h0 : 0 ≤ r) (h1 : r ≤ n) (hne : r ≠ m) (hm0 : 0 ≤ m) (hm : m ≤ n) (hn : 0 < n) : 0 ≤ ixr m r ∧ ixr m r < n := by
  unfold ixr
  split <;> omega
theorem ixr_lt {m r q : Int} (hr : r ≠ m) (hq : q ≠ m) : ixr m r < ixr m q ↔ r < q := by
  unfold ixr
  split <;> split <;> omega
theorem ixr_inj {m r q : Int} (hr : r ≠ m) (hq : q ≠ m) (h : ixr m r = ixr m q) : r = q := by
  unfold ixr at h
  split at h <;> split at h <;> omega
theorem bkRow_bd (hl : Byt l) {m : Int} (hm : BkPre l m) : ∀ t : Nat, (∀ u : Nat, u < t → bkRow l m u ≠ m) → t ≤ l.length → 0 ≤ bkRow l m t ∧ bkRow l m t ≤ l.length
  | 0, _, _ => by unfold bkRow; omega
  | t + 1, h, ht => by
    have ih := bkRow_bd hl hm t (fun u hu => h u (by omega)) (by omega)
    have hb := ixr_bd (n := l.length) ih.1 ih.2 (h t (by omega)) (by have := hm.1; omega) hm.2 (by omega)
    have := lf_bd hl hb.1 hb.2
    rw [bkRow]
    omega
theorem ord_not_end {x : Int} (x0 : 0 ≤ x) (hx : x < s.length) {y : Int} (hy : (s.length : Int) ≤ y) : ¬ ordE s x y := ordE_asymm _ _ (ord_end x0 hx hy)
/-- A step back in the order of endings. -/
theorem ord_step {j k : Int} (j0 : 0 ≤ j) (hj : j < s.length) (k0 : 0 ≤ k) (hk : k < s.length) : ordE s j k ↔ rd s j < rd s k ∨ rd s j = rd s k ∧ ordE s (j + 1) (k + 1) := by
  rw [ord_cons j0 hj k0 hk, ordE_cmp]
end
end Go.Pure
/-
  Plain laws: what is turned comes back; what comes back turns to it again. Own work.
-/
namespace Go.Pure
open Go Go.Eng
section
variable {l s a : List Int}
def cT (s : List Int) (x y : Int) : Prop := cmpL (s.drop x.toNat) (s.drop y.toNat) < 0
instance (s : List Int) : DecidableRel (cT s) := fun x y => by unfold cT; infer_instance
theorem cT_iff {x y : Int} : cT s x y ↔ ordE s x y := ordE_cmp
theorem cT_as (x y : Int) (h : cT s x y) : ¬ cT s y x := fun h' => ordE_asymm _ _ (cT_iff.1 h) (cT_iff.1 h')
/-- How many endings come ahead; the row of an ending. -/
def posE (s : List Int) (k : Int) : Int := ((iota s.length).countP fun j => decide (cT s j k) : Nat)
def rowE (s : List Int) (k : Int) : Int := if k < s.length then posE s k + 1 else 0
theorem pos_at (hp : a.Perm (iota s.length)) (ho : a.Pairwise (ordE s)) {q : Int} (q0 : 0 ≤ q) (hq : q < s.length) : posE s (rd a q) = q := rank_at cT_as hp (ho.imp fun h => cT_iff.2 h) q0 hq
theorem pos_ix (hp : a.Perm (iota s.length)) (ho : a.Pairwise (ordE s)) {k : Int} (k0 : 0 ≤ k) (hk : k < s.length) : (0 ≤ posE s k ∧ posE s k < s.length) ∧ rd a (posE s k) = k := by
  obtain ⟨u, hu, e⟩ := List.mem_iff_getElem.1 (hp.symm.subset (mem_iota.2 ⟨k0, hk⟩))
  have hlen := hp.length_eq
  rw [iota_len] at hlen
  have e2 : rd a (u : Int) = k := by rw [rd_get hu]; exact e
  have e3 := pos_at hp ho (q := (u : Int)) (by omega) (by omega)
  rw [e2] at e3
  rw [e3]
  exact ⟨by omega, e2⟩
theorem row_lt {j k : Int} (j0 : 0 ≤ j) (hj : j ≤ s.length) (k0 : 0 ≤ k) (hk : k ≤ s.length) : rowE s j < rowE s k ↔ ordE s j k := by
  obtain ⟨a, hp, ho⟩ := order_exists s
  have hlen := hp.length_eq
  rw [iota_len] at hlen
  unfold rowE
  rcases Int.lt_or_le j s.length with a1 | a1
  · rw [if_pos a1]
    have hj' := pos_ix hp ho j0 a1
    rcases Int.lt_or_le k s.length with b1 | b1
    · rw [if_pos b1]
      have hk' := pos_ix hp ho k0 b1
      constructor
      · intro h
        have := pairwise_rd ho hj'.1.1 (by omega : posE s j < posE s k) (by omega)
        rwa [hj'.2, hk'.2] at this
      · intro h
        rcases Int.lt_trichotomy (posE s j) (posE s k) with c | c | c
        · omega
        · rw [c, hk'.2] at hj'
          rw [← hj'.2] at h
          exact absurd h (ordE_asymm _ _ h)
        · have := pairwise_rd ho hk'.1.1 c (by omega)
          rw [hj'.2, hk'.2] at this
          exact absurd h (ordE_asymm _ _ this)
    · rw [if_neg (by omega)]
      exact ⟨fun h => by omega, fun h => absurd h (ord_not_end j0 a1 b1)⟩
  · rw [if_neg (by omega)]
    rcases Int.lt_or_le k s.length with b1 | b1
    · rw [if_pos b1]
      have hk' := pos_ix hp ho k0 b1
      exact ⟨fun _ => ord_end k0 b1 a1, fun _ => by omega⟩
    · rw [if_neg (by omega)]
      obtain rfl : j = k := by omega
      exact ⟨fun h => by omega, fun h => absurd h (ordE_asymm _ _ h)⟩
theorem row_bd {k : Int} (k0 : 0 ≤ k) : 0 ≤ rowE s k ∧ rowE s k ≤ s.length ∧ (k < s.length → 1 ≤ rowE s k) := by
  obtain ⟨a, hp, ho⟩ := order_exists s
  unfold rowE
  split
  · rename_i h
    have := pos_ix hp ho k0 h
    omega
  · omega
theorem row_inj {j k : Int} (j0 : 0 ≤ j) (hj : j ≤ s.length) (k0 : 0 ≤ k) (hk : k ≤ s.length) (e : rowE s j = rowE s k) : j = k := by
  have h1 := row_lt j0 hj k0 hk
  have h2 := row_lt k0 hk j0 hj
  rcases Int.lt_or_le j s.length with a1 | a1
  · rcases Int.lt_or_le k s.length with b1 | b1
    · by_cases h : j = k
      · exact h
      · rcases ordE_tri ⟨j0, a1⟩ ⟨k0, b1⟩ h with c | c
        · have := h1.2 c; omega
        · have := h2.2 c; omega
    · have := h2.2 (ord_end j0 a1 b1); omega
  · rcases Int.lt_or_le k s.length with b1 | b1
    · have := h1.2 (ord_end k0 b1 a1); omega
    · omega
theorem zat_row (hp : a.Perm (iota s.length)) (ho : a.Pairwise (ordE s)) : zat a = rowE s 0 := by
  obtain ⟨_, h1, h2, _⟩ := of_facts hp
  unfold rowE
  rcases Nat.eq_zero_or_pos s.length with hz | hn
  · rw [if_neg (by omega), h2 hz]
  · have h := h1 hn
    rw [if_pos (by omega)]
    have := pos_at hp ho (q := zat a - 1) (by omega) (by omega)
    rw [h.2.2] at this
    omega
/-- The letter of the row behind a place is the place's. -/
theorem letter (hp : a.Perm (iota s.length)) (ho : a.Pairwise (ordE s)) {k : Int} (k0 : 0 ≤ k) (hk : k < s.length) : (0 ≤ ixr (zat a) (rowE s (k + 1)) ∧ ixr (zat a) (rowE s (k + 1)) < s.length) ∧ rd (ofL s a) (ixr (zat a) (rowE s (k + 1))) = rd s k := by
  obtain ⟨_, h1, _, h3⟩ := of_facts hp
  have hz := h1 (by omega)
  have hb := row_bd (s := s) (k := k + 1) (by omega)
  have hne : rowE s (k + 1) ≠ zat a := by
    rw [zat_row hp ho]
    intro e
    have := row_inj (s := s) (by omega) (by omega) (Int.le_refl 0) (by omega) e
    omega
  have hix := ixr_bd hb.1 hb.2.1 hne (by omega) hz.2.1 (by omega)
  refine ⟨hix, ?_⟩
  rw [h3 _ hix.1 hix.2]
  rcases Int.lt_or_le (k + 1) s.length with c | c
  · have hpk := pos_ix hp ho (k := k + 1) (by omega) c
    have er : rowE s (k + 1) = posE s (k + 1) + 1 := by unfold rowE; rw [if_pos c]
    unfold ixr at hix ⊢
    by_cases d : zat a < rowE s (k + 1)
    · rw [if_pos d]
      rw [if_neg (by omega), if_neg (by omega), show rowE s (k + 1) - 1 = posE s (k + 1) by omega, hpk.2]
      congr 1; omega
    · rw [if_neg d]
      rw [if_neg (by omega), if_pos (by omega), show rowE s (k + 1) - 1 = posE s (k + 1) by omega, hpk.2]
      congr 1; omega
  · have er : rowE s (k + 1) = 0 := by unfold rowE; rw [if_neg (by omega)]
    have e0 : ixr (zat a) 0 = 0 := by unfold ixr; rw [if_neg (by omega)]
    rw [er, e0, if_pos rfl]
    congr 1; omega
theorem ofL_byt (hs : Byt s) (hp : a.Perm (iota s.length)) : Byt (ofL s a) := by
  intro x hx
  obtain ⟨h0, _, _, h3⟩ := of_facts hp
  obtain ⟨u, hu, rfl⟩ := List.mem_iff_getElem.1 hx
  have hla := hp.length_eq
  rw [iota_len] at hla
  have e := h3 u (by omega) (by omega)
  rw [rd_get hu] at e
  have hm : ∀ j : Int, 0 ≤ j → j < s.length → 0 ≤ rd s j ∧ rd s j < 256 := fun j j0 j1 => hs _ (rd_mem j0 j1)
  have ha : ∀ j : Int, 0 ≤ j → j < s.length → 0 ≤ rd a j ∧ rd a j < s.length := fun j j0 j1 => mem_iota.1 (hp.subset (rd_mem j0 (by omega)))
  -- a place ahead of the first one is read as nought
  have hneg : ∀ j : Int, j < 0 → rd s j = rd s 0 := fun j h => by unfold rd; rw [show j.toNat = (0 : Int).toNat by omega]
  have hm2 : ∀ j : Int, j < s.length → 0 ≤ rd s j ∧ rd s j < 256 := fun j h => by
    rcases Int.lt_or_le j 0 with c | c
    · rw [hneg j c]; exact hm 0 (Int.le_refl 0) (by omega)
    · exact hm j c h
  rw [e]
  split
  · exact hm2 _ (by omega)
  · split
    · have := ha ((u : Int) - 1) (by omega) (by omega)
      exact hm2 _ (by omega)
    · have := ha u (by omega) (by omega)
      exact hm2 _ (by omega)
/-- From the last letter to the first. -/
theorem lf_step (hs : Byt s) (hp : a.Perm (iota s.length)) (ho : a.Pairwise (ordE s)) {k : Int} (k0 : 0 ≤ k) (hk : k < s.length) : lfC (ofL s a) (ixr (zat a) (rowE s (k + 1))) = posE s k := by
  obtain ⟨h0, h1, _, _⟩ := of_facts hp
  have hne : ∀ j : Int, 0 ≤ j → j < s.length → rowE s (j + 1) ≠ zat a := fun j j0 j1 e => by
    rw [zat_row hp ho] at e
    have := row_inj (s := s) (by omega) (by omega) (Int.le_refl 0) (by omega) e
    omega
  have hb := bij_perm (n := s.length) (f := fun k => ixr (zat a) (rowE s (k + 1))) (fun j j0 j1 => (letter hp ho j0 j1).1) fun x y x0 x1 y0 y1 e => by
    have e2 := ixr_inj (hne x x0 x1) (hne y y0 y1) e
    have := row_inj (s := s) (by omega) (by omega) (by omega) (by omega) e2
    omega
  unfold lfC posE
  rw [h0, ← hb.countP_eq, List.countP_map]
  congr 1
  refine List.countP_congr fun j hj => ?_
  have hj := mem_iota.1 hj
  simp only [Function.comp_apply, decide_eq_true_iff]
  rw [cT_iff, ord_step hj.1 hj.2 k0 hk, ← row_lt (by omega) (by omega) (by omega) (by omega)]
  unfold tl
  rw [(letter hp ho hj.1 hj.2).2, (letter hp ho k0 hk).2, ixr_lt (hne j hj.1 hj.2) (hne k k0 hk)]
theorem back_row (hs : Byt s) (hp : a.Perm (iota s.length)) (ho : a.Pairwise (ordE s)) : ∀ t : Nat, t ≤ s.length → bkRow (ofL s a) (zat a) t = rowE s (s.length - t)
  | 0, _ => by unfold bkRow rowE; rw [if_neg (by omega)]
  | t + 1, ht => by
    rw [bkRow, back_row hs hp ho t (by omega)]
    have := lf_step hs hp ho (k := (s.length : Int) - ((t + 1 : Nat) : Int)) (by omega) (by omega)
    rw [show (s.length : Int) - ((t + 1 : Nat) : Int) + 1 = s.length - (t : Int) by omega] at this
    rw [this]
    unfold rowE
    rw [if_pos (by omega)]
/-- What is turned comes back. -/
theorem turned_back (hs : Byt s) (hp : a.Perm (iota s.length)) (ho : a.Pairwise (ordE s)) : BkOk (ofL s a) (zat a) ∧ bkOut (ofL s a) (zat a) = s := by
  obtain ⟨h0, h1, h2, _⟩ := of_facts hp
  refine ⟨⟨?_, fun t ht => ?_, ?_⟩, ?_⟩
  · unfold BkPre
    rw [h0]
    rcases Nat.eq_zero_or_pos s.length with hz | hn
    · have := h2 hz; omega
    · have := h1 hn; omega
  · rw [h0] at ht
    rw [back_row hs hp ho t (by omega), zat_row hp ho]
    intro e
    have := row_inj (s := s) (by omega) (by omega) (Int.le_refl 0) (by omega) e
    omega
  · rw [h0, back_row hs hp ho _ (Nat.le_refl _), zat_row hp ho]
    congr 1; omega
  · refine list_ext_rd (by rw [bkOut_len, h0]) fun i i0 i1 => ?_
    rw [bkOut_len, h0] at i1
    rw [rd_bkOut i0 (by rw [h0]; exact i1), h0, back_row hs hp ho _ (by omega)]
    have := (letter hp ho i0 i1).2
    rwa [show (s.length : Int) - (((s.length : Int) - 1 - i).toNat : Int) = i + 1 by omega]
/-- What comes back turns to it again, by that row. -/
theorem back_turned {m : Int} (hl : Byt l) (h : BkOk l m) (hp : a.Perm (iota (bkOut l m).length)) (ho : a.Pairwise (ordE (bkOut l m))) : ofL (bkOut l m) a = l ∧ zat a = m := by
  obtain ⟨hpre, hon, hend⟩ := h
  have hsl := bkOut_len l m
  have m0 : 0 ≤ m := by have := hpre.1; omega
  have hbd : ∀ k : Int, 0 ≤ k → k ≤ l.length → 0 ≤ bkRow l m (l.length - k).toNat ∧ bkRow l m (l.length - k).toNat ≤ l.length := fun k k0 hk => bkRow_bd hl hpre _ (fun u hu => hon u (by omega)) (by omega)
  have hne : ∀ k : Int, 0 ≤ k → k < l.length → bkRow l m (l.length - (k + 1)).toNat ≠ m := fun k k0 hk => hon _ (by omega)
  have hq : ∀ k : Int, 0 ≤ k → k < l.length → 0 ≤ ixr m (bkRow l m (l.length - (k + 1)).toNat) ∧ ixr m (bkRow l m (l.length - (k + 1)).toNat) < l.length := fun k k0 hk => by
    have := hbd (k + 1) (by omega) (by omega)
    exact ixr_bd this.1 this.2 (hne k k0 hk) m0 hpre.2 (by omega)
  have hR : ∀ k : Int, 0 ≤ k → k < l.length → bkRow l m (l.length - k).toNat = lfC l (ixr m (bkRow l m (l.length - (k + 1)).toNat)) + 1 := fun k k0 hk => by
    rw [show ((l.length : Int) - k).toNat = (l.length - (k + 1)).toNat + 1 by omega, bkRow]
  have hR1 : ∀ k : Int, 0 ≤ k → k < l.length → 1 ≤ bkRow l m (l.length - k).toNat := fun k k0 hk => by
    have h1 := hq k k0 hk
    have := lf_bd hl h1.1 h1.2
    rw [hR k k0 hk]; omega
  have hRn : ∀ k : Int, (l.length : Int) ≤ k → bkRow l m (l.length - k).toNat = 0 := fun k hk => by rw [show ((l.length : Int) - k).toNat = 0 by omega]; rfl
  have hs : ∀ k : Int, 0 ≤ k → k < l.length → rd (bkOut l m) k = rd l (ixr m (bkRow l m (l.length - (k + 1)).toNat)) := fun k k0 hk => by
    rw [rd_bkOut k0 hk, show ((l.length : Int) - 1 - k).toNat = (l.length - (k + 1)).toNat by omega]
  have ord : ∀ (f : Nat) (j k : Int), l.length - j ≤ f → 0 ≤ j → j ≤ l.length → 0 ≤ k → k ≤ l.length → (bkRow l m (l.length - j).toNat < bkRow l m (l.length - k).toNat ↔ ordE (bkOut l m) j k) := by
    intro f
    induction f with
    | zero =>
      intro j k hf j0 hj k0 hk
      obtain rfl : j = l.length := by omega
      rw [hRn _ (Int.le_refl _)]
      rcases Int.lt_or_le k l.length with b | b
      · have := hR1 k k0 b
        exact ⟨fun _ => ord_end k0 (by omega) (by omega), fun _ => by omega⟩
      · rw [hRn k b]
        obtain rfl : k = l.length := by omega
        exact ⟨fun h => by omega, fun h => absurd h (ordE_asymm _ _ h)⟩
    | succ f ih =>
      intro j k hf j0 hj k0 hk
      rcases Int.lt_or_le j l.length with c | c
      · rcases Int.lt_or_le k l.length with b | b
        · rw [hR j j0 c, hR k k0 b, ord_step j0 (by omega) k0 (by omega), hs j j0 c, hs k k0 b, ← ih (j + 1) (k + 1) (by omega) (by omega) (by omega) (by omega) (by omega), ← ixr_lt (hne j j0 c) (hne k k0 b)]
          have := lf_lt hl (hq j j0 c).1 (hq j j0 c).2 (hq k k0 b).1 (hq k k0 b).2
          unfold tl at this
          omega
        · rw [hRn k b]
          have := hR1 j j0 c
          exact ⟨fun h => by omega, fun h => absurd h (ord_not_end j0 (by omega) (by omega))⟩
      · exact ih j k (by omega) j0 hj k0 hk
  have hord := fun j k => ord l.length j k
  have hinj : ∀ j k : Int, 0 ≤ j → j < l.length → 0 ≤ k → k < l.length → bkRow l m (l.length - j).toNat = bkRow l m (l.length - k).toNat → j = k := fun j k j0 hj k0 hk e => by
    by_cases h : j = k
    · exact h
    · rcases ordE_tri (s := bkOut l m) ⟨j0, by omega⟩ ⟨k0, by omega⟩ h with c | c
      · have := (hord j k (by omega) j0 (by omega) k0 (by omega)).2 c; omega
      · have := (hord k j (by omega) k0 (by omega) j0 (by omega)).2 c; omega
  have hrow : ∀ k : Int, 0 ≤ k → k ≤ l.length → rowE (bkOut l m) k = bkRow l m (l.length - k).toNat := fun k k0 hk => by
    unfold rowE
    rw [hsl]
    split
    · rename_i hk2
      have := bij_rank (n := l.length) (f := fun k => bkRow l m (l.length - k).toNat - 1) (fun x x0 x1 => by have h1 := hbd x x0 (by omega); have h2 := hR1 x x0 x1; show 0 ≤ _ - 1 ∧ _ - 1 < _; omega) (fun x y x0 x1 y0 y1 e => hinj x y x0 x1 y0 y1 (by have : bkRow l m (l.length - x).toNat - 1 = bkRow l m (l.length - y).toNat - 1 := e; omega)) k0 hk2
      have e : posE (bkOut l m) k = bkRow l m (l.length - k).toNat - 1 := by
        unfold posE
        rw [hsl, ← this]
        congr 1
        refine List.countP_congr fun j hj => ?_
        have hj := mem_iota.1 hj
        simp only [decide_eq_true_iff]
        rw [cT_iff, ← hord j k (by omega) hj.1 (by omega) k0 (by omega)]
        omega
      omega
    · exact (hRn k (by omega)).symm
  obtain ⟨h0, h1, h2, _⟩ := of_facts hp
  have hzat : zat a = m := by
    rw [zat_row hp ho, hrow 0 (Int.le_refl 0) (by omega), ← hend]
    congr 1
  refine ⟨list_ext_rd (by rw [h0, hsl]) fun i i0 i1 => ?_, hzat⟩
  rw [h0, hsl] at i1
  have hb := bij_perm (n := l.length) (f := fun k => ixr m (bkRow l m (l.length - (k + 1)).toNat)) (fun j j0 j1 => hq j j0 j1) fun x y x0 x1 y0 y1 e => by
    have e2 := ixr_inj (hne x x0 x1) (hne y y0 y1) e
    rcases Int.lt_or_le (x + 1) l.length with c | c
    · rcases Int.lt_or_le (y + 1) l.length with d | d
      · have := hinj (x + 1) (y + 1) (by omega) c (by omega) d e2; omega
      · rw [hRn _ d] at e2
        have := hR1 (x + 1) (by omega) c; omega
    · rcases Int.lt_or_le (y + 1) l.length with d | d
      · rw [hRn _ c] at e2
        have := hR1 (y + 1) (by omega) d; omega
      · omega
  obtain ⟨k, hk, e⟩ := List.mem_map.1 (hb.symm.subset (mem_iota.2 ⟨i0, i1⟩))
  have hk := mem_iota.1 hk
  have hlet := (letter hp ho (k := k) hk.1 (by omega)).2
  rw [hzat, hrow (k + 1) (by omega) (by omega)] at hlet
  have e' : ixr m (bkRow l m (l.length - (k + 1)).toNat) = i := e
  rw [e', hs k hk.1 hk.2, e'] at hlet
  exact hlet
theorem next_bij (hp : a.Perm (iota s.length)) (ho : a.Pairwise (ordE s)) : ((iota s.length).map fun k => ixr (zat a) (rowE s (k + 1))).Perm (iota s.length) := by
  have hne : ∀ j : Int, 0 ≤ j → j < s.length → rowE s (j + 1) ≠ zat a := fun j j0 j1 e => by
    rw [zat_row hp ho] at e
    have := row_inj (s := s) (by omega) (by omega) (Int.le_refl 0) (by omega) e
    omega
  exact bij_perm (n := s.length) (f := fun k => ixr (zat a) (rowE s (k + 1))) (fun j j0 j1 => (letter hp ho j0 j1).1) fun x y x0 x1 y0 y1 e => by
    have e2 := ixr_inj (hne x x0 x1) (hne y y0 y1) e
    have := row_inj (s := s) (by omega) (by omega) (by omega) (by omega) e2
    omega
/-- It has as many of each letter. -/
theorem ofL_perm (hp : a.Perm (iota s.length)) (ho : a.Pairwise (ordE s)) : (ofL s a).Perm s := by
  have h0 := (of_facts hp).1
  have h1 := (next_bij hp ho).map (rd (ofL s a))
  rw [List.map_map] at h1
  have e1 : (iota s.length).map (rd (ofL s a) ∘ fun k => ixr (zat a) (rowE s (k + 1))) = s := by
    conv => rhs; rw [← map_iota_rd s]
    refine List.map_congr_left fun k hk => ?_
    have hk := mem_iota.1 hk
    exact (letter hp ho hk.1 hk.2).2
  have e2 : (iota s.length).map (rd (ofL s a)) = ofL s a := by
    have := map_iota_rd (ofL s a)
    rwa [h0] at this
  rw [e1, e2] at h1
  exact h1.symm
end
end Go.Pure
