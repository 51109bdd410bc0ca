/- Several texts of our own in one: Q29, Q30, H1, F7, F9, F10, Q18, E17, F11, V2, Q31, H2, Q35, Q38, Q39, E30. -/
import Derived.Shelf.Abstract
import Derived.WalkKit
import Derived.OwnWalkIn
import Derived.TacticsInMore
import Derived.LoopNIn
import Derived.LoopIn
import Derived.Test.YtdfcnalkdlifiaaGreatProg
import Derived.Test.YtdfcnalkdlifiaaGreatB3
/-! ## Q29 -/
/-
  Plain laws: what stands ahead of the endings, and back. Own work.
-/
namespace Go.Pure
open Go Go.Eng
/-- Of a row in order, each has so many ahead of it. -/
theorem rank_sorted {T : Int → Int → Prop} [DecidableRel T] (asy : ∀ x y, T x y → ¬ T y x) : ∀ {o : List Int} {q : Nat}, o.Pairwise T → (h : q < o.length) → o.countP (fun x => decide (T x o[q])) = q
  | [], q, _, h => by simp at h
  | a :: o, 0, hs, h => by
    rw [List.countP_eq_zero]
    intro x hx
    simp only [List.getElem_cons_zero, decide_eq_true_iff]
    rcases List.mem_cons.1 hx with rfl | hx
    · exact fun h => asy _ _ h h
    · exact asy _ _ ((List.pairwise_cons.1 hs).1 x hx)
  | a :: o, q + 1, hs, h => by
    obtain ⟨h1, h2⟩ := List.pairwise_cons.1 hs
    have hq : q < o.length := by simp only [List.length_cons] at h; omega
    simp only [List.getElem_cons_succ]
    rw [List.countP_cons_of_pos (by simpa using h1 _ (List.getElem_mem hq)), rank_sorted asy h2 hq]
theorem rank_at {T : Int → Int → Prop} [DecidableRel T] (asy : ∀ x y, T x y → ¬ T y x) {o : List Int} {n : Nat} (hp : o.Perm (iota n)) (hs : o.Pairwise T) {q : Int} (q0 : 0 ≤ q) (hq : q < n) : (((iota n).countP fun x => decide (T x (rd o q)) : Nat) : Int) = q := by
  have hl : o.length = n := by rw [hp.length_eq, iota_len]
  rw [← hp.countP_eq, rd_getI q0 (by omega), rank_sorted asy hs (by omega)]
  omega
theorem rd_iota {n : Nat} {q : Int} (q0 : 0 ≤ q) (hq : q < n) : rd (iota n) q = q := by
  unfold iota
  rw [rd_range q0 hq]
  omega
theorem bij_perm {n : Nat} {f : Int → Int} (hf : ∀ x : Int, 0 ≤ x → x < n → 0 ≤ f x ∧ f x < n) (hi : ∀ x y : Int, 0 ≤ x → x < n → 0 ≤ y → y < n → f x = f y → x = y) : ((iota n).map f).Perm (iota n) := by
  refine perm_all ?_ (fun x hx => ?_) (by simp)
  · refine List.pairwise_map.2 (List.Pairwise.imp_of_mem (fun {a b} ha hb hab e => ?_) (iota_nodup n))
    have h1 := mem_iota.1 ha
    have h2 := mem_iota.1 hb
    exact hab (hi a b h1.1 h1.2 h2.1 h2.2 e)
  · obtain ⟨y, hy, rfl⟩ := List.mem_map.1 hx
    have h := mem_iota.1 hy
    exact mem_iota.2 (hf y h.1 h.2)
/-- The order of letters: by the letter, then by the place. -/
def tl (l : List Int) (i k : Int) : Prop := rd l i < rd l k ∨ rd l i = rd l k ∧ i < k
instance (l : List Int) : DecidableRel (tl l) := fun i k => by unfold tl; infer_instance
theorem tl_as {l : List Int} (x y : Int) (h : tl l x y) : ¬ tl l y x := by unfold tl at *; omega
def lfC (l : List Int) (k : Int) : Int := ((iota l.length).countP fun j => decide (tl l j k) : Nat)
def Byt (l : List Int) : Prop := ∀ x ∈ l, 0 ≤ x ∧ x < 256
section
variable {l : List Int}
theorem lf_order (hl : Byt l) : (passK (iota l.length) l 256).Perm (iota l.length) ∧ (passK (iota l.length) l 256).Pairwise (tl l) :=
  ⟨passK_perm fun i hi => by have h := mem_iota.1 hi; exact hl _ (rd_mem h.1 h.2), passK_sorted (iota_inc _) 256⟩
theorem lf_at (hl : Byt l) {q : Int} (q0 : 0 ≤ q) (hq : q < l.length) : lfC l (rd (passK (iota l.length) l 256) q) = q := rank_at tl_as (lf_order hl).1 (lf_order hl).2 q0 hq
theorem lf_ix (hl : Byt l) {i : Int} (i0 : 0 ≤ i) (hi : i < l.length) : ∃ q : Int, 0 ≤ q ∧ q < l.length ∧ rd (passK (iota l.length) l 256) q = i ∧ lfC l i = q := by
  obtain ⟨u, hu, e⟩ := List.mem_iff_getElem.1 ((lf_order hl).1.symm.subset (mem_iota.2 ⟨i0, hi⟩))
  have hlen := (lf_order hl).1.length_eq
  rw [iota_len] at hlen
  have e2 : rd (passK (iota l.length) l 256) (u : Int) = i := by rw [rd_get hu]; exact e
  refine ⟨u, by omega, by omega, e2, ?_⟩
  rw [← e2]
  exact lf_at hl (by omega) (by omega)
theorem lf_bd (hl : Byt l) {i : Int} (i0 : 0 ≤ i) (hi : i < l.length) : 0 ≤ lfC l i ∧ lfC l i < l.length := by
  obtain ⟨q, q0, q1, _, e⟩ := lf_ix hl i0 hi
  omega
theorem lf_lt (hl : Byt l) {i k : Int} (i0 : 0 ≤ i) (hi : i < l.length) (k0 : 0 ≤ k) (hk : k < l.length) : lfC l i < lfC l k ↔ tl l i k := by
  obtain ⟨p, p0, p1, ep, fp⟩ := lf_ix hl i0 hi
  obtain ⟨q, q0, q1, eq, fq⟩ := lf_ix hl k0 hk
  have hlen := (lf_order hl).1.length_eq
  rw [iota_len] at hlen
  have hs := (lf_order hl).2
  rw [fp, fq]
  constructor
  · intro h
    have := pairwise_rd hs p0 h (by omega)
    rwa [ep, eq] at this
  · intro h
    rcases Int.lt_trichotomy p q with a | a | a
    · exact a
    · subst a
      rw [← ep, ← eq] at h
      exact absurd h (tl_as _ _ h)
    · have := pairwise_rd hs q0 a (by omega)
      rw [ep, eq] at this
      exact absurd h (tl_as _ _ this)
theorem lf_inj (hl : Byt l) {i k : Int} (i0 : 0 ≤ i) (hi : i < l.length) (k0 : 0 ≤ k) (hk : k < l.length) (e : lfC l i = lfC l k) : i = k := by
  have h1 := lf_lt hl i0 hi k0 hk
  have h2 := lf_lt hl k0 hk i0 hi
  unfold tl at h1 h2
  rcases Int.lt_trichotomy (rd l i) (rd l k) with a | a | a
  · have := h1.2 (.inl a); omega
  · rcases Int.lt_trichotomy i k with b | b | b
    · have := h1.2 (.inr ⟨a, b⟩); omega
    · exact b
    · have := h2.2 (.inr ⟨a.symm, b⟩); omega
  · have := h2.2 (.inl a); omega
/-- The row of the whole text. -/
def zat (a : List Int) : Int := if (0 : Int) ∈ a then (a.idxOf 0 : Int) + 1 else 0
def ofT (s a : List Int) : List Int := (a.filter fun x => decide (x ≠ 0)).map fun x => rd s (x - 1)
/-- The letters ahead of the endings. -/
def ofL (s a : List Int) : List Int := (if 0 < s.length then [rd s (s.length - 1)] else []) ++ ofT s a
variable {s a : List Int}
theorem rd_append_l {u v : List Int} {j : Int} (h0 : 0 ≤ j) (h : j < u.length) : rd (u ++ v) j = rd u j := by
  unfold rd
  rw [List.getD_eq_getElem?_getD, List.getD_eq_getElem?_getD, List.getElem?_append_left (by omega)]
theorem rd_append_r {u v : List Int} {j : Int} (h : (u.length : Int) ≤ j) : rd (u ++ v) j = rd v (j - u.length) := by
  unfold rd
  rw [List.getD_eq_getElem?_getD, List.getD_eq_getElem?_getD, List.getElem?_append_right (by omega), show j.toNat - u.length = (j - u.length).toNat by omega]
theorem rd_map {u : List Int} {f : Int → Int} {j : Int} (h0 : 0 ≤ j) (h : j < u.length) : rd (u.map f) j = f (rd u j) := by
  rw [rd_getI h0 (by rw [List.length_map]; exact h), List.getElem_map, ← rd_getI h0 h]
/-- The index of the letter of a row. -/
def ixr (m r : Int) : Int := if m < r then r - 1 else r
def bkRow (l : List Int) (m : Int) : Nat → Int
  | 0 => 0
  | t + 1 => lfC l (ixr m (bkRow l m t)) + 1
/-- The letters, from the first. -/
def bkOut (l : List Int) (m : Int) : List Int := (List.range l.length).map fun i : Nat => rd l (ixr m (bkRow l m (l.length - 1 - i)))
def BkPre (l : List Int) (m : Int) : Prop := min (l.length : Int) 1 ≤ m ∧ m ≤ l.length
def BkOn (l : List Int) (m : Int) : Prop := ∀ t : Nat, t < l.length → bkRow l m t ≠ m
def BkOk (l : List Int) (m : Int) : Prop := BkPre l m ∧ BkOn l m ∧ bkRow l m l.length = m
end
end Go.Pure
/-
  Plain laws: what is turned comes back; what comes back turns to it again. Own work.
-/
namespace Go.Pure
open Go Go.Eng
section
variable {l s a : List Int}
def cT (s : List Int) (x y : Int) : Prop := cmpL (s.drop x.toNat) (s.drop y.toNat) < 0
instance (s : List Int) : DecidableRel (cT s) := fun x y => by unfold cT; infer_instance
/-- How many endings come ahead; the row of an ending. -/
def posE (s : List Int) (k : Int) : Int := ((iota s.length).countP fun j => decide (cT s j k) : Nat)
def rowE (s : List Int) (k : Int) : Int := if k < s.length then posE s k + 1 else 0
end
end Go.Pure

/-! ## Q30 -/
namespace Go.Pure
open Go Go.Eng
section
variable {p : List Int}
/-- From k on, asx long asx nothing comes twice. -/
def walkC (p : List Int) : Nat → List Bool → Int → List Int × List Bool
  | 0, E, _ => ([], E)
  | f + 1, E, k => if rdb E k = true then ([], E) else (k :: (walkC p f (updB E k true) (rd p k)).1, (walkC p f (updB E k true) (rd p k)).2)
/-- How many have not come. -/
def cntF (E : List Bool) : Nat := E.countP fun b => !b
theorem cntF_rep (n : Nat) : cntF (List.replicate n false) = n := by unfold cntF; rw [List.countP_replicate]; simp
theorem cntF_upd {E : List Bool} {k : Int} (k0 : 0 ≤ k) (hk : k < E.length) (h : rdb E k ≠ true) : cntF (updB E k true) + 1 = cntF E := by
  have hlt : k.toNat < E.length := by omega
  have e : E[k.toNat] = false := by
    have h2 : rdb E k = E[k.toNat] := by unfold rdb; rw [List.getD_eq_getElem?_getD, List.getElem?_eq_getElem hlt]; rfl
    rw [h2] at h
    simpa using h
  unfold cntF updB
  rw [List.countP_set hlt, e]
  simp only [Bool.not_true, Bool.not_false, Bool.false_eq_true, if_false, if_true, Nat.add_zero]
  have : 0 < E.countP fun b => !b := List.countP_pos_iff.2 ⟨E[k.toNat], List.getElem_mem hlt, by rw [e]; rfl⟩
  omega
theorem walkC_seen {f : Nat} {E : List Bool} {k : Int} (h : rdb E k = true) : walkC p f E k = ([], E) := by
  cases f with
  | zero => rfl
  | succ f => rw [walkC, if_pos h]
theorem cntF_pos {E : List Bool} {k : Int} (k0 : 0 ≤ k) (hk : k < E.length) (h : rdb E k ≠ true) : 0 < cntF E := by have := cntF_upd k0 hk h; omega
theorem walkC_go {f : Nat} {E : List Bool} {k : Int} (k0 : 0 ≤ k) (hk : k < E.length) (hf : cntF E ≤ f) (h : rdb E k ≠ true) : walkC p f E k = (k :: (walkC p (f - 1) (updB E k true) (rd p k)).1, (walkC p (f - 1) (updB E k true) (rd p k)).2) := by
  have := cntF_pos k0 hk h
  obtain ⟨g, rfl⟩ : ∃ g, f = g + 1 := ⟨f - 1, by omega⟩
  rw [walkC, if_neg h]
  rfl
/-- The rings from the first i places. -/
def cycK (p : List Int) : Nat → List Bool × List (List Int)
  | 0 => (List.replicate p.length false, [])
  | i + 1 => ((walkC p p.length (cycK p i).1 i).2, if (walkC p p.length (cycK p i).1 i).1 = [] then (cycK p i).2 else (cycK p i).2 ++ [(walkC p p.length (cycK p i).1 i).1])
def cycL (p : List Int) : List (List Int) := (cycK p p.length).2
theorem walkC_facts (hp : p.Perm (iota p.length)) : ∀ (f : Nat) (E : List Bool) (k : Int), E.length = p.length → 0 ≤ k → k < p.length → (walkC p f E k).2.length = p.length ∧ (∀ x ∈ (walkC p f E k).1, 0 ≤ x ∧ x < p.length) ∧ (walkC p f E k).1.length + cntF (walkC p f E k).2 = cntF E
  | 0, E, k, hl, _, _ => And.intro hl (And.intro (fun x hx => absurd hx (List.not_mem_nil (a := x))) (Nat.zero_add _))
  | f + 1, E, k, hl, k0, hk => by
    rw [walkC]
    split
    · exact And.intro hl (And.intro (fun x hx => absurd hx (List.not_mem_nil (a := x))) (Nat.zero_add _))
    · rename_i h
      have hn := mem_iota.1 (hp.subset (rd_mem (L := p) k0 hk))
      have ih := walkC_facts hp f (updB E k true) (rd p k) (by rw [updB_len]; exact hl) hn.1 hn.2
      have hc := cntF_upd k0 (by omega) h
      refine ⟨ih.1, fun x hx => ?_, ?_⟩
      · rcases List.mem_cons.1 hx with rfl | hx
        · exact ⟨k0, hk⟩
        · exact ih.2.1 x hx
      · have := ih.2.2
        simp only [List.length_cons]
        omega
theorem cycK_facts (hp : p.Perm (iota p.length)) : ∀ i : Nat, i ≤ p.length → (cycK p i).1.length = p.length ∧ (∀ c ∈ (cycK p i).2, ∀ x ∈ c, 0 ≤ x ∧ x < p.length) ∧ (cycK p i).2.flatten.length + cntF (cycK p i).1 = p.length
  | 0, _ => ⟨by simp [cycK], fun c hc => (by cases hc), by simp [cycK, cntF_rep]⟩
  | i + 1, hi => by
    have ih := cycK_facts hp i (by omega)
    have hw := walkC_facts hp p.length (cycK p i).1 i ih.1 (by omega) (by omega)
    rw [cycK]
    refine ⟨hw.1, ?_, ?_⟩
    · intro c hc x hx
      split at hc
      · exact ih.2.1 c hc x hx
      · rcases List.mem_append.1 hc with hc | hc
        · exact ih.2.1 c hc x hx
        · obtain rfl := List.mem_singleton.1 hc
          exact hw.2.1 x hx
    · split
      · rename_i h
        have h2 := hw.2.2
        rw [h] at h2
        have := ih.2.2
        simp only [List.length_nil] at h2
        show (cycK p i).2.flatten.length + cntF (walkC p p.length (cycK p i).1 i).2 = p.length
        omega
      · rw [List.flatten_append, List.length_append]
        have h2 := hw.2.2
        have := ih.2.2
        simp only [List.flatten_cons, List.flatten_nil, List.append_nil]
        omega
theorem cycL_in (hp : p.Perm (iota p.length)) : ∀ c ∈ cycL p, ∀ x ∈ c, 0 ≤ x ∧ x < p.length := (cycK_facts hp p.length (Nat.le_refl _)).2.1
theorem cycL_len (hp : p.Perm (iota p.length)) : (cycL p).flatten.length ≤ p.length := by have := (cycK_facts hp p.length (Nat.le_refl _)).2.2; unfold cycL; omega
/-- No ring is empty: there are no more than places. -/
theorem cycK_few (p : List Int) : ∀ i : Nat, (cycK p i).2.length ≤ i
  | 0 => by simp [cycK]
  | i + 1 => by
    have := cycK_few p i
    rw [cycK]
    split
    · exact Nat.le_succ_of_le this
    · rw [List.length_append]; simp only [List.length_singleton]; omega
theorem cyc_yes {i : Int} {E E2 : List Bool} {ls : List (List Int)} {acc : List Int} (i0 : 0 ≤ i) (hcy : cycK p i.toNat = (E, ls)) (hse : walkC p p.length E i = (acc, E2)) (hne : acc ≠ []) : cycK p (i + 1).toNat = (E2, ls ++ [acc]) := by
  rw [show (i + 1).toNat = i.toNat + 1 by omega, cycK, hcy]
  simp only [show ((i.toNat : Nat) : Int) = i by omega, hse, if_neg hne]
theorem cyc_no {i : Int} {E E2 : List Bool} {ls : List (List Int)} {acc : List Int} (i0 : 0 ≤ i) (hcy : cycK p i.toNat = (E, ls)) (hse : walkC p p.length E i = (acc, E2)) (hne : acc = []) : cycK p (i + 1).toNat = (E2, ls) := by
  rw [show (i + 1).toNat = i.toNat + 1 by omega, cycK, hcy]
  simp only [show ((i.toNat : Nat) : Int) = i by omega, hse, if_pos hne]
theorem walk_bound (hp : p.Perm (iota p.length)) {f : Nat} {E E2 : List Bool} {acc : List Int} {i k : Int} (hl : E.length = p.length) (i0 : 0 ≤ i) (hi : i < p.length) (hw : (acc ++ (walkC p f E2 k).1, (walkC p f E2 k).2) = walkC p p.length E i) : acc.length ≤ p.length := by
  have h := (walkC_facts hp p.length E i hl i0 hi).2.2
  rw [← hw] at h
  simp only [List.length_append] at h
  have : cntF E ≤ E.length := List.countP_le_length
  omega
/-- A ring's letters, the last one first. -/
def wordC (l c : List Int) : List Int := c.reverse.map (rd l)
/-- What is read back: all rings, the last one first. -/
def backL (l : List Int) (cs : List (List Int)) : List Int := (cs.reverse.map (wordC l)).flatten
theorem wordC_step {l c : List Int} {k : Nat} (hk : k < c.length) : ((c.reverse).take (k + 1)).map (rd l) = ((c.reverse).take k).map (rd l) ++ [rd l (rd c (c.length - 1 - k))] := by
  have hlt : k < c.reverse.length := by rw [List.length_reverse]; exact hk
  rw [List.take_add_one, List.getElem?_eq_getElem hlt, List.map_append]
  congr 1
  simp only [Option.toList_some, List.map_cons, List.map_nil]
  congr 2
  rw [List.getElem_reverse, rd_getI (by omega) (by omega)]
  congr 1
  omega
theorem wordC_len (l c : List Int) : (wordC l c).length = c.length := by simp [wordC]
end
end Go.Pure

/-! ## H1 -/
namespace Go.Proofs.YtdfcnalkdlifiaaGreat
open Go Go.Eng Go.Pure
set_option linter.unusedVariables false
theorem not_again {a : List Int} (hd : a.Nodup) {i : Int} (i0 : 0 ≤ i) (hi : i < a.length) : rd a i ∉ a.take i.toNat := fun h => by
  obtain ⟨q, hq, e⟩ := List.mem_iff_getElem.1 h
  rw [List.length_take] at hq
  rw [List.getElem_take] at e
  have := rd_inj hd (i := (q : Int)) (j := i) (by omega) (by omega) i0 hi (by rw [rd_getI (i := (q : Int)) (by omega) (by omega)]; simp only [Int.toNat_natCast]; exact e)
  omega
theorem seen_step {a : List Int} {E : List Bool} {i : Int} {n : Nat} (i0 : 0 ≤ i) (hi : i < a.length) (hl : E.length = n) (ha : 0 ≤ rd a i ∧ rd a i < n) (h : ∀ x : Int, 0 ≤ x → x < n → (rdb E x = true ↔ x ∈ a.take i.toNat)) : ∀ x : Int, 0 ≤ x → x < n → (rdb (updB E (rd a i) true) x = true ↔ x ∈ a.take (i + 1).toNat) := by
  intro x x0 x1
  rw [take_rd i0 hi, rdb_upd ha.1 (by omega) x0, List.mem_append, List.mem_singleton]
  split
  · rename_i e; exact ⟨fun _ => .inr e, fun _ => rfl⟩
  · rename_i e; rw [h x x0 x1]; exact ⟨.inl, fun h => h.resolve_right e⟩
theorem inv_step {a V : List Int} {i : Int} {n : Nat} (i0 : 0 ≤ i) (hi : i < a.length) (hd : a.Nodup) (hl : V.length = n) (ha : ∀ q : Int, 0 ≤ q → q < a.length → 0 ≤ rd a q ∧ rd a q < n) (h : ∀ q : Int, 0 ≤ q → q < i → rd V (rd a q) = q) : ∀ q : Int, 0 ≤ q → q < i + 1 → rd (upd V (rd a i) i) (rd a q) = q := by
  intro q q0 q1
  have h1 := ha i i0 hi
  have h2 := ha q q0 (by omega)
  rw [rd_upd h1.1 h2.1 (by omega)]
  split
  · rename_i e; exact rd_inj hd i0 hi q0 (by omega) e.symm
  · rename_i e
    refine h q q0 ?_
    rcases Int.lt_or_le q i with g | g
    · exact g
    · obtain rfl : q = i := by omega
      exact absurd rfl e
def fsL (l : List Int) : List Int := (iota l.length).map (lfC l)
theorem fsL_len (l : List Int) : (fsL l).length = l.length := by unfold fsL; rw [List.length_map, iota_len]
theorem rd_fsL {l : List Int} {i : Int} (i0 : 0 ≤ i) (hi : i < l.length) : rd (fsL l) i = lfC l i := by
  unfold fsL
  rw [rd_map i0 (by rw [iota_len]; exact hi), rd_iota i0 hi]
theorem pk_len {l : List Int} (hl : ByteL l) : (passK (iota l.length) l (256 : Int).toNat).length = l.length := by
  have := (lf_order (l := l) hl).1.length_eq
  rwa [iota_len] at this
theorem pk_perm {l : List Int} (hl : ByteL l) : (passK (iota l.length) l (256 : Int).toNat).Perm (iota (passK (iota l.length) l (256 : Int).toNat).length) := by
  rw [pk_len hl]
  exact (lf_order (l := l) hl).1
theorem fs_of {l V : List Int} (hl : ByteL l) (h1 : V.length = (passK (iota l.length) l (256 : Int).toNat).length) (h2 : ∀ q : Int, 0 ≤ q → q < (passK (iota l.length) l (256 : Int).toNat).length → rd V (rd (passK (iota l.length) l (256 : Int).toNat) q) = q) : V = fsL l := by
  rw [pk_len hl] at h1 h2
  refine list_ext_rd (by rw [h1, fsL_len]) fun j j0 j1 => ?_
  rw [rd_fsL j0 (by omega)]
  obtain ⟨q, q0, q1, e, f⟩ := lf_ix (l := l) hl j0 (by omega)
  rw [f, ← e]
  exact h2 q q0 q1
set_option maxRecDepth 100000 in
set_option maxHeartbeats 800000 in
theorem rinv_ct {w : World} {A_a : Option Addr} {n_a c_a : Nat} {a : List Int} (h_a : Rd w A_a n_a c_a 1 (ints .i64 a)) (hp : a.Perm (iota a.length)) (hN : a.length ≤ 1000000) :
    Ct Tryz.prog 67 #[.slice A_a n_a c_a] w.heap.size w [] (fun v R' => ∃ A c V, v = .tuple #[.slice A a.length c, .bool true] ∧ V.length = a.length ∧ (∀ q : Int, 0 ≤ q → q < a.length → rd V (rd a q) = q) ∧ R' = [⟨3, 1, A, a.length, c, ints .i64 V, false⟩]) := by
  obtain rfl := h_a.lenI
  refine fn2 Tryz.func67 rfl rfl rfl ?_
  have m_a := h_a.max
  have hnd : a.Nodup := hp.symm.nodup (iota_nodup _)
  have hall : ∀ q : Int, 0 ≤ q → q < a.length → 0 ≤ rd a q ∧ rd a q < a.length := fun q q0 q1 => mem_iota.1 (hp.subset (rd_mem q0 q1))
  refine w_seq ?_
  refine w_reg ?_
  refine wr_y rfl (y_assign rfl) ?_
  refine wr_y rfl (y_assign rfl) ?_
  refine wr_nil ?_
  refine w_seq ?_
  refine w_reg ?_
  refine wr_y rfl (y_move rfl) ?_
  refine wr_y rfl (y_len Tryz.underlying24 rfl) ?_
  refine wr_a rfl (a_makeN Tryz.underlying24 zb3 rfl rfl (by omega) (by omega) (by omega)) ?_
  rintro _ _ ⟨g_1, rfl, rfl⟩
  refine wr_rows (R1 := [⟨3, 1, (some ⟨g_1, 0, none⟩), a.length, a.length, ints .i64 (List.replicate a.length (0 : Int)), false⟩]) rfl ?_
  refine wr_as (v := .slice (some ⟨g_1, 0, none⟩) a.length a.length) rfl ?_
  refine wr_y rfl (y_assign rfl) ?_
  refine wr_nil ?_
  refine w_seq ?_
  refine w_reg ?_
  refine wr_y rfl (y_move rfl) ?_
  refine wr_y rfl (y_len Tryz.underlying24 rfl) ?_
  refine wr_a rfl (a_makeB Tryz.underlying101 zb4 rfl rfl (by omega) (by omega) (by omega)) ?_
  rintro _ _ ⟨g_2, rfl, rfl⟩
  refine wr_rows (R1 := [⟨4, 1, (some ⟨g_2, 0, none⟩), a.length, a.length, bools (List.replicate a.length false), false⟩, ⟨3, 1, (some ⟨g_1, 0, none⟩), a.length, a.length, ints .i64 (List.replicate a.length (0 : Int)), false⟩]) rfl ?_
  refine wr_as (v := .slice (some ⟨g_2, 0, none⟩) a.length a.length) rfl ?_
  refine wr_y rfl (y_assign rfl) ?_
  refine wr_nil ?_
  refine w_seq ?_
  refine w_seq ?_
  refine w_reg ?_
  refine wr_y rfl (y_move rfl) ?_
  refine wr_y rfl (y_len Tryz.underlying24 rfl) ?_
  refine wr_y rfl (y_move rfl) ?_
  refine wr_nil ?_
  refine w_block ?_
  refine w_loop3 (fun (i : Int) (V : List Int) (E : List Bool) => [(0, .slice A_a a.length c_a), (4, .slice (some ⟨g_1, 0, none⟩) a.length a.length), (5, .slice (some ⟨g_2, 0, none⟩) a.length a.length), (14, .slice A_a a.length c_a), (15, .int .i64 ((a.length : Nat) : Int)), (16, .int .i64 i)]) (fun (i : Int) (V : List Int) (E : List Bool) => [⟨4, 1, (some ⟨g_2, 0, none⟩), a.length, a.length, bools E, false⟩, ⟨3, 1, (some ⟨g_1, 0, none⟩), a.length, a.length, ints .i64 V, false⟩]) (fun (i : Int) (V : List Int) (E : List Bool) => (0 ≤ i) ∧ (i ≤ a.length) ∧ (V.length = a.length) ∧ (E.length = a.length) ∧ (∀ x : Int, 0 ≤ x → x < a.length → (rdb E x = true ↔ x ∈ a.take i.toNat)) ∧ (∀ q : Int, 0 ≤ q → q < i → rd V (rd a q) = q)) (fun (i : Int) (V : List Int) (E : List Bool) => (a.length - i).toNat) ?_ ?_
  ·
    exact ⟨0, List.replicate a.length (0 : Int), List.replicate a.length false, ⟨(by omega), (by omega), (by rw [List.length_replicate]), (by rw [List.length_replicate]), (fun x h0 h1 => by rw [rdb_rep]; simp), (fun q h0 h1 => by omega)⟩, (Sub.cons rfl (Sub.cons rfl (Sub.cons rfl (Sub.cons rfl (Sub.cons rfl (Sub.cons rfl Sub.nil)))))), fun _ h => h⟩
  intro i V E ⟨hi0, hi1, hVl, hEl, hE, hV⟩
  refine w_seq ?_
  refine w_reg ?_
  refine wr_y rfl (y_lt rfl rfl) ?_
  refine wr_nil ?_
  refine w_seq ?_
  refine w_if rfl (fun hc1 => ?_) (fun hc1 => ?_)
  ·
    have ha := hall i hi0 (by omega)
    have hno := not_again hnd hi0 (by omega)
    refine w_skip ?_
    refine w_seq ?_
    refine w_block ?_
    refine w_seq ?_
    refine w_reg ?_
    refine wr_y rfl (y_move rfl) ?_
    refine wr_y rfl (y_index1 Tryz.underlying24 sz3 rfl rfl (h_a.c _) (by omega) (by omega)) ?_
    refine wr_y rfl (y_ldI Tryz.underlying3 rfl rfl (h_a.c _) (by omega) (by omega)) ?_
    refine wr_y rfl (y_assign rfl) ?_
    refine wr_y rfl (y_assign rfl) ?_
    refine wr_nil ?_
    refine w_seq ?_
    refine w_seq ?_
    refine w_reg ?_
    refine wr_y rfl (y_move rfl) ?_
    refine wr_y rfl (Yl.f (y_lt rfl rfl) (by omega)) ?_
    refine wr_y rfl (y_move rfl) ?_
    refine wr_yes rfl rfl ?_
    refine wr_y rfl (y_move rfl) ?_
    refine wr_yes rfl rfl ?_
    refine wr_y rfl (y_move rfl) ?_
    refine wr_yes rfl rfl ?_
    refine wr_y rfl (y_len Tryz.underlying24 rfl) ?_
    refine wr_yes rfl rfl ?_
    refine wr_y rfl (Yl.f (y_ge rfl rfl) (by omega)) ?_
    refine wr_y rfl (y_pickF rfl rfl) ?_
    refine wr_y rfl (y_move rfl) ?_
    refine wr_yes rfl rfl ?_
    refine wr_y rfl (y_move rfl) ?_
    refine wr_yes rfl rfl ?_
    refine wr_y rfl (y_move rfl) ?_
    refine wr_yes rfl rfl ?_
    refine wr_y rfl (y_index1 Tryz.underlying101 sz4 rfl rfl (rdr 0 rfl) (by omega) (by omega)) ?_
    refine wr_yes rfl rfl ?_
    refine wr_y rfl (Yl.f (y_ldB Tryz.underlying4 rfl rfl (rdr 0 rfl) (by omega) (by omega)) (fun h => hno ((hE _ ha.1 ha.2).1 h))) ?_
    refine wr_y rfl (y_pickF rfl rfl) ?_
    refine wr_nil ?_
    refine w_false rfl ?_
    refine w_skip ?_
    refine w_reg ?_
    refine wr_y rfl (y_move rfl) ?_
    refine wr_y rfl (y_move rfl) ?_
    refine wr_y rfl (y_move rfl) ?_
    refine wr_y rfl (y_move rfl) ?_
    refine wr_y rfl (y_move rfl) ?_
    refine wr_y rfl (y_index1 Tryz.underlying24 sz3 rfl rfl (rdr 1 rfl) (by omega) (by omega)) ?_
    refine wr_n (a_storeI 1 rfl sz3 rfl rfl (by omega) (by omega)) ?_
    rintro _ _ rfl
    refine wr_rows (R1 := [⟨4, 1, (some ⟨g_2, 0, none⟩), a.length, a.length, bools E, false⟩, ⟨3, 1, (some ⟨g_1, 0, none⟩), a.length, a.length, ints .i64 (upd V (rd a i) i), false⟩]) rfl ?_
    refine wr_y rfl (y_index1 Tryz.underlying101 sz4 rfl rfl (rdr 0 rfl) (by omega) (by omega)) ?_
    refine wr_n (a_storeB 0 rfl sz4 rfl rfl (by omega) (by omega)) ?_
    rintro _ _ rfl
    refine wr_rows (R1 := [⟨4, 1, (some ⟨g_2, 0, none⟩), a.length, a.length, bools (updB E (rd a i) true), false⟩, ⟨3, 1, (some ⟨g_1, 0, none⟩), a.length, a.length, ints .i64 (upd V (rd a i) i), false⟩]) rfl ?_
    refine wr_nil ?_
    refine w_reg ?_
    refine wr_y rfl (y_addI rfl rfl (by omega)) ?_
    refine wr_y rfl (y_move rfl) ?_
    refine wr_nil ?_
    exact ⟨i + 1, upd V (rd a i) i, updB E (rd a i) true, ⟨(by omega), (by omega), (by rw [upd_length]; exact hVl), (by rw [updB_len]; exact hEl), (seen_step hi0 (by omega) hEl ha hE), (inv_step hi0 (by omega) hnd hVl hall hV)⟩, (by omega), (Sub.cons rfl (Sub.cons rfl (Sub.cons rfl (Sub.cons rfl (Sub.cons rfl (Sub.cons rfl Sub.nil)))))), fun _ h => h⟩
  ·
    refine w_exit ?_
    refine w_seq ?_
    refine w_reg ?_
    refine wr_y rfl (y_move rfl) ?_
    refine wr_y rfl (y_assign rfl) ?_
    refine wr_y rfl (y_assign rfl) ?_
    refine wr_nil ?_
    refine w_retR (R1 := [⟨3, 1, (some ⟨g_1, 0, none⟩), a.length, a.length, ints .i64 V, false⟩]) (fun _ h => h.sel [1] (by decide) rfl) ?_
    refine ⟨_, _, rfl, rfl, ?_⟩
    exact ⟨_, _, V, rfl, hVl, fun q h0 h1 => hV q h0 (by omega), rfl⟩

set_option maxRecDepth 100000 in
theorem ris_ct {w : World} {A_a : Option Addr} {n_a c_a : Nat} {a : List Int} (h_a : Rd w A_a n_a c_a 1 (ints .i64 a)) (hp : a.Perm (iota a.length)) (hN : a.length ≤ 1000000) :
    Ct Tryz.prog 65 #[.slice A_a n_a c_a] w.heap.size w [] (fun v R' => v = .bool true) := by
  obtain rfl := h_a.lenI
  refine fn1 Tryz.func65 rfl rfl rfl ?_
  have m_a := h_a.max
  refine w_seq ?_
  refine w_reg ?_
  refine wr_y rfl (y_assign rfl) ?_
  refine wr_nil ?_
  refine w_seq ?_
  refine w_reg ?_
  refine wr_y rfl (y_move rfl) ?_
  refine wr_a rfl (a_callF en67 rfl (Ct.fresh (fun w hw => rinv_ct ((h_a.c _) w hw) hp hN))) ?_
  rintro _ _ ⟨_, rfl, A_1, c_2, inv, rfl, hl_inv, hq_inv, rfl⟩
  refine wr_y rfl (y_move rfl) ?_
  refine wr_y rfl (y_extract rfl rfl) ?_
  refine wr_y rfl (y_extract rfl rfl) ?_
  refine wr_y rfl (y_assign rfl) ?_
  refine wr_y rfl (y_assign rfl) ?_
  refine wr_nil ?_
  refine w_seq ?_
  refine w_reg ?_
  refine wr_y rfl (y_move rfl) ?_
  refine wr_y rfl (y_assign rfl) ?_
  refine wr_nil ?_
  refine w_retR (R1 := []) (fun _ h => h.sel [] (by decide) rfl) ?_
  refine ⟨_, rfl, ?_⟩
  rfl

set_option maxRecDepth 100000 in
set_option maxHeartbeats 800000 in
theorem lfOf_ct {w : World} {A_u : Option Addr} {n_u c_u : Nat} {u : List Int} (h_u : Rd w A_u n_u c_u 1 (ints .u8 u)) (bh_u : ByteL u) (hN : u.length ≤ 1000000) :
    Ct Tryz.prog 38 #[.slice A_u n_u c_u] w.heap.size w [] (fun v R' => ∃ A c, v = .slice A (fsL u).length c ∧ R' = [⟨3, 1, A, (fsL u).length, c, ints .i64 (fsL u), false⟩]) := by
  obtain rfl := h_u.lenI
  refine fn1 Tryz.func38 rfl rfl rfl ?_
  have m_u := h_u.max
  refine w_seq ?_
  refine w_reg ?_
  refine wr_y rfl (y_assign rfl) ?_
  refine wr_nil ?_
  refine w_seq ?_
  refine w_reg ?_
  refine wr_y rfl (y_move rfl) ?_
  refine wr_y rfl (y_len Tryz.underlying23 rfl) ?_
  refine wr_a rfl (a_makeN Tryz.underlying24 zb3 rfl rfl (by omega) (by omega) (by omega)) ?_
  rintro _ _ ⟨g_1, rfl, rfl⟩
  refine wr_rows (R1 := [⟨3, 1, (some ⟨g_1, 0, none⟩), u.length, u.length, ints .i64 (List.replicate u.length (0 : Int)), false⟩]) rfl ?_
  refine wr_as (v := .slice (some ⟨g_1, 0, none⟩) u.length u.length) rfl ?_
  refine wr_y rfl (y_assign rfl) ?_
  refine wr_nil ?_
  refine w_seq ?_
  refine w_reg ?_
  refine wr_y rfl (y_move rfl) ?_
  refine wr_y rfl (y_len Tryz.underlying23 rfl) ?_
  refine wr_a rfl (a_makeN Tryz.underlying24 zb3 rfl rfl (by omega) (by omega) (by omega)) ?_
  rintro _ _ ⟨g_2, rfl, rfl⟩
  refine wr_rows (R1 := [⟨3, 1, (some ⟨g_2, 0, none⟩), u.length, u.length, ints .i64 (List.replicate u.length (0 : Int)), false⟩, ⟨3, 1, (some ⟨g_1, 0, none⟩), u.length, u.length, ints .i64 (List.replicate u.length (0 : Int)), false⟩]) rfl ?_
  refine wr_as (v := .slice (some ⟨g_2, 0, none⟩) u.length u.length) rfl ?_
  refine wr_y rfl (y_assign rfl) ?_
  refine wr_nil ?_
  refine w_seq ?_
  refine w_seq ?_
  refine w_reg ?_
  refine wr_y rfl (y_move rfl) ?_
  refine wr_y rfl (y_len Tryz.underlying23 rfl) ?_
  refine wr_y rfl (y_move rfl) ?_
  refine wr_nil ?_
  refine w_block ?_
  refine w_loop3 (fun (i : Int) (V : List Int) (K : List Int) => [(3, .slice (some ⟨g_1, 0, none⟩) u.length u.length), (4, .slice (some ⟨g_2, 0, none⟩) u.length u.length), (15, .slice A_u u.length c_u), (16, .int .i64 ((u.length : Nat) : Int)), (17, .int .i64 i)]) (fun (i : Int) (V : List Int) (K : List Int) => [⟨3, 1, (some ⟨g_2, 0, none⟩), u.length, u.length, ints .i64 K, false⟩, ⟨3, 1, (some ⟨g_1, 0, none⟩), u.length, u.length, ints .i64 V, false⟩]) (fun (i : Int) (V : List Int) (K : List Int) => (0 ≤ i) ∧ (i ≤ u.length) ∧ (V.length = u.length) ∧ (K.length = u.length) ∧ (∀ j : Int, 0 ≤ j → j < i → rd V j = j) ∧ (∀ j : Int, 0 ≤ j → j < i → rd K j = rd u j)) (fun (i : Int) (V : List Int) (K : List Int) => (u.length - i).toNat) ?_ ?_
  ·
    exact ⟨0, List.replicate u.length (0 : Int), List.replicate u.length (0 : Int), ⟨(by omega), (by omega), (by rw [List.length_replicate]), (by rw [List.length_replicate]), (fun j h1 h2 => by omega), (fun j h1 h2 => by omega)⟩, (Sub.cons rfl (Sub.cons rfl (Sub.cons rfl (Sub.cons rfl (Sub.cons rfl Sub.nil))))), fun _ h => h⟩
  intro i V K ⟨hi0, hi1, hVl, hKl, hV, hK⟩
  refine w_seq ?_
  refine w_reg ?_
  refine wr_y rfl (y_lt rfl rfl) ?_
  refine wr_nil ?_
  refine w_seq ?_
  refine w_if rfl (fun hc1 => ?_) (fun hc1 => ?_)
  ·
    have hbi := bh_u.rd i
    refine w_skip ?_
    refine w_seq ?_
    refine w_block ?_
    refine w_seq ?_
    refine w_reg ?_
    refine wr_y rfl (y_move rfl) ?_
    refine wr_y rfl (y_index1 Tryz.underlying23 sz5 rfl rfl (h_u.c _) (by omega) (by omega)) ?_
    refine wr_y rfl (y_ldI Tryz.underlying5 rfl rfl (h_u.c _) (by omega) (by omega)) ?_
    refine wr_y rfl (y_assign rfl) ?_
    refine wr_y rfl (y_assign rfl) ?_
    refine wr_nil ?_
    refine w_reg ?_
    refine wr_y rfl (y_move rfl) ?_
    refine wr_y rfl (y_move rfl) ?_
    refine wr_y rfl (y_move rfl) ?_
    refine wr_y rfl (y_move rfl) ?_
    refine wr_y rfl (y_move rfl) ?_
    refine wr_y rfl (y_move rfl) ?_
    refine wr_y rfl (y_convI Tryz.underlying5 Tryz.underlying3 rfl (by omega)) ?_
    refine wr_y rfl (y_index1 Tryz.underlying24 sz3 rfl rfl (rdr 1 rfl) (by omega) (by omega)) ?_
    refine wr_n (a_storeI 1 rfl sz3 rfl rfl (by omega) (by omega)) ?_
    rintro _ _ rfl
    refine wr_rows (R1 := [⟨3, 1, (some ⟨g_2, 0, none⟩), u.length, u.length, ints .i64 K, false⟩, ⟨3, 1, (some ⟨g_1, 0, none⟩), u.length, u.length, ints .i64 (upd V i i), false⟩]) rfl ?_
    refine wr_y rfl (y_index1 Tryz.underlying24 sz3 rfl rfl (rdr 0 rfl) (by omega) (by omega)) ?_
    refine wr_n (a_storeI 0 rfl sz3 rfl rfl (by omega) (by omega)) ?_
    rintro _ _ rfl
    refine wr_rows (R1 := [⟨3, 1, (some ⟨g_2, 0, none⟩), u.length, u.length, ints .i64 (upd K i (rd u i)), false⟩, ⟨3, 1, (some ⟨g_1, 0, none⟩), u.length, u.length, ints .i64 (upd V i i), false⟩]) rfl ?_
    refine wr_nil ?_
    refine w_reg ?_
    refine wr_y rfl (y_addI rfl rfl (by omega)) ?_
    refine wr_y rfl (y_move rfl) ?_
    refine wr_nil ?_
    exact ⟨i + 1, upd V i i, upd K i (rd u i), ⟨(by omega), (by omega), (by rw [upd_length]; exact hVl), (by rw [upd_length]; exact hKl), (fill_step (f := fun j => j) hi0 (by omega) hV rfl), (fill_step (f := fun j => rd u j) hi0 (by omega) hK rfl)⟩, (by omega), (Sub.cons rfl (Sub.cons rfl (Sub.cons rfl (Sub.cons rfl (Sub.cons rfl Sub.nil))))), fun _ h => h⟩
  ·
    obtain rfl : V = iota u.length := list_ext_rd (by rw [iota_len]; omega) fun j h0 h1 => by rw [rd_iota h0 (by omega)]; exact hV j h0 (by omega)
    obtain rfl : u = K := (list_ext_rd (by omega) fun j h0 h1 => hK j h0 (by omega) : K = u).symm
    refine w_exit ?_
    refine w_seq ?_
    refine w_reg ?_
    refine wr_y rfl (y_move rfl) ?_
    refine wr_y rfl (y_move rfl) ?_
    refine wr_a rfl (a_callF en66 rfl (Ct.fresh (fun w hw => pass_ct ((rdr 1 rfl) w hw) ((rdr 0 rfl) w hw) (by omega) bh_u (fun i hi => mem_iota.1 hi) (by rw [iota_len]; omega)))) ?_
    rintro _ _ ⟨_, rfl, A_3, c_4, rfl, rfl⟩
    refine wr_y rfl (y_move rfl) ?_
    refine wr_y rfl (y_extract rfl rfl) ?_
    refine wr_y rfl (y_extract rfl rfl) ?_
    refine wr_y rfl (y_assign rfl) ?_
    refine wr_nil ?_
    refine w_seq ?_
    refine w_reg ?_
    refine wr_y rfl (y_move rfl) ?_
    refine wr_a rfl (a_callF en67 rfl (Ct.fresh (fun w hw => rinv_ct ((rdr 0 rfl) w hw) (pk_perm bh_u) (by rw [pk_len bh_u]; omega)))) ?_
    rintro _ _ ⟨_, rfl, A_5, c_6, inv, rfl, hl_inv, hq_inv, rfl⟩
    refine wr_y rfl (y_move rfl) ?_
    refine wr_y rfl (y_extract rfl rfl) ?_
    refine wr_y rfl (y_extract rfl rfl) ?_
    refine wr_y rfl (y_assign rfl) ?_
    refine wr_y rfl (y_assign rfl) ?_
    refine wr_nil ?_
    refine w_seq ?_
    refine w_reg ?_
    refine wr_y rfl (y_move rfl) ?_
    refine wr_y rfl (y_assign rfl) ?_
    refine wr_nil ?_
    refine w_retR (R1 := [⟨3, 1, A_5, (passK (iota u.length) u ((256 : Int)).toNat).length, c_6, ints .i64 inv, false⟩]) (fun _ h => h.sel [0] (by decide) rfl) ?_
    refine ⟨_, rfl, ?_⟩
    obtain rfl : inv = fsL u := fs_of bh_u hl_inv hq_inv
    have el : (passK (iota u.length) u (256 : Int).toNat).length = (fsL u).length := by rw [pk_len bh_u, fsL_len]
    rw [el]
    exact ⟨_, _, rfl, rfl⟩

set_option maxRecDepth 100000 in
set_option maxHeartbeats 600000 in
theorem inv16_ct {w : World} {A_a : Option Addr} {n_a c_a : Nat} {a : List Int} (h_a : Rd w A_a n_a c_a 1 (ints .i64 a)) (hp : a.Perm (iota a.length)) (hN : a.length ≤ 1000000) :
    Ct Tryz.prog 86 #[.slice A_a n_a c_a] w.heap.size w [] (fun v R' => ∃ A c V, v = .tuple #[.slice A a.length c, .bool true] ∧ R' = [⟨3, 1, A, a.length, c, ints .i64 V, false⟩]) := by
  obtain rfl := h_a.lenI
  refine fn2 Tryz.func86 rfl rfl rfl ?_
  have m_a := h_a.max
  have hnd : a.Nodup := hp.symm.nodup (iota_nodup _)
  refine w_seq ?_
  refine w_reg ?_
  refine wr_y rfl (y_assign rfl) ?_
  refine wr_y rfl (y_assign rfl) ?_
  refine wr_nil ?_
  refine w_seq ?_
  refine w_reg ?_
  refine wr_y rfl (y_move rfl) ?_
  refine wr_y rfl (y_len Tryz.underlying24 rfl) ?_
  refine wr_a rfl (a_makeN Tryz.underlying24 zb3 rfl rfl (by omega) (by omega) (by omega)) ?_
  rintro _ _ ⟨g_1, rfl, rfl⟩
  refine wr_rows (R1 := [⟨3, 1, (some ⟨g_1, 0, none⟩), a.length, a.length, ints .i64 (List.replicate a.length (0 : Int)), false⟩]) rfl ?_
  refine wr_as (v := .slice (some ⟨g_1, 0, none⟩) a.length a.length) rfl ?_
  refine wr_y rfl (y_assign rfl) ?_
  refine wr_nil ?_
  refine w_seq ?_
  refine w_seq ?_
  refine w_reg ?_
  refine wr_y rfl (y_assign rfl) ?_
  refine wr_nil ?_
  refine w_block ?_
  refine w_loop2 (fun (q : Int) (D : List Int) => [(0, .slice A_a a.length c_a), (4, .slice (some ⟨g_1, 0, none⟩) a.length a.length), (5, .int .i64 q)]) (fun (q : Int) (D : List Int) => [⟨3, 1, (some ⟨g_1, 0, none⟩), a.length, a.length, ints .i64 D, false⟩]) (fun (q : Int) (D : List Int) => (0 ≤ q) ∧ (q ≤ a.length) ∧ (D.length = a.length) ∧ (∀ j : Int, 0 ≤ j → j < q → rd D j = -1)) (fun (q : Int) (D : List Int) => (a.length - q).toNat) ?_ ?_
  ·
    exact ⟨0, List.replicate a.length (0 : Int), ⟨(by omega), (by omega), (by rw [List.length_replicate]), (fun j h1 h2 => by omega)⟩, (Sub.cons rfl (Sub.cons rfl (Sub.cons rfl Sub.nil))), fun _ h => h⟩
  intro q D ⟨hq0, hq1, hDl, hD⟩
  refine w_seq ?_
  refine w_seq ?_
  refine w_reg ?_
  refine wr_y rfl (y_move rfl) ?_
  refine wr_y rfl (y_move rfl) ?_
  refine wr_y rfl (y_len Tryz.underlying24 rfl) ?_
  refine wr_y rfl (y_lt rfl rfl) ?_
  refine wr_nil ?_
  refine w_if rfl (fun hc1 => ?_) (fun hc1 => ?_)
  ·
    refine w_skip ?_
    refine w_seq ?_
    refine w_block ?_
    refine w_reg ?_
    refine wr_y rfl (y_move rfl) ?_
    refine wr_y rfl (y_move rfl) ?_
    refine wr_y rfl (y_index1 Tryz.underlying24 sz3 rfl rfl (rdr 0 rfl) (by omega) (by omega)) ?_
    refine wr_n (a_storeI 0 rfl sz3 rfl rfl (by omega) (by omega)) ?_
    rintro _ _ rfl
    refine wr_rows (R1 := [⟨3, 1, (some ⟨g_1, 0, none⟩), a.length, a.length, ints .i64 (upd D q (-1)), false⟩]) rfl ?_
    refine wr_nil ?_
    refine w_reg ?_
    refine wr_y rfl (y_move rfl) ?_
    refine wr_y rfl (y_addI rfl rfl (by omega)) ?_
    refine wr_y rfl (y_assign rfl) ?_
    refine wr_nil ?_
    exact ⟨q + 1, upd D q (-1), ⟨(by omega), (by omega), (by rw [upd_length]; exact hDl), (fill_step (f := fun _ => -1) hq0 (by omega) hD rfl)⟩, (by omega), (Sub.cons rfl (Sub.cons rfl (Sub.cons rfl Sub.nil))), fun _ h => h⟩
  ·
    refine w_exit ?_
    refine w_seq ?_
    refine w_seq ?_
    refine w_reg ?_
    refine wr_y rfl (y_assign rfl) ?_
    refine wr_nil ?_
    refine w_block ?_
    refine w_loop2 (fun (i : Int) (D : List Int) => [(0, .slice A_a a.length c_a), (4, .slice (some ⟨g_1, 0, none⟩) a.length a.length), (6, .int .i64 i)]) (fun (i : Int) (D : List Int) => [⟨3, 1, (some ⟨g_1, 0, none⟩), a.length, a.length, ints .i64 D, false⟩]) (fun (i : Int) (D : List Int) => (0 ≤ i) ∧ (i ≤ a.length) ∧ (D.length = a.length) ∧ (∀ x : Int, 0 ≤ x → x < a.length → 0 ≤ rd D x → ∃ q : Int, 0 ≤ q ∧ q < i ∧ rd a q = x)) (fun (i : Int) (D : List Int) => (a.length - i).toNat) ?_ ?_
    ·
      exact ⟨0, D, ⟨(by omega), (by omega), (hDl), (fun x h0 h1 h2 => by have := hD x h0 (by omega); omega)⟩, (Sub.cons rfl (Sub.cons rfl (Sub.cons rfl Sub.nil))), fun _ h => h⟩
    intro i D ⟨hi0, hi1, hDl, hV⟩
    refine w_seq ?_
    refine w_seq ?_
    refine w_reg ?_
    refine wr_y rfl (y_move rfl) ?_
    refine wr_y rfl (y_move rfl) ?_
    refine wr_y rfl (y_len Tryz.underlying24 rfl) ?_
    refine wr_y rfl (y_lt rfl rfl) ?_
    refine wr_nil ?_
    refine w_if rfl (fun hc2 => ?_) (fun hc2 => ?_)
    ·
      have ha := mem_iota.1 (hp.subset (rd_mem (L := a) hi0 (by omega)))
      refine w_skip ?_
      refine w_seq ?_
      refine w_block ?_
      refine w_seq ?_
      refine w_seq ?_
      refine w_reg ?_
      refine wr_y rfl (y_move rfl) ?_
      refine wr_y rfl (y_move rfl) ?_
      refine wr_y rfl (y_index1 Tryz.underlying24 sz3 rfl rfl (h_a.c _) (by omega) (by omega)) ?_
      refine wr_y rfl (y_ldI Tryz.underlying3 rfl rfl (h_a.c _) (by omega) (by omega)) ?_
      refine wr_y rfl (Yl.f (y_lt rfl rfl) (by omega)) ?_
      refine wr_y rfl (y_move rfl) ?_
      refine wr_yes rfl rfl ?_
      refine wr_y rfl (y_move rfl) ?_
      refine wr_yes rfl rfl ?_
      refine wr_y rfl (y_move rfl) ?_
      refine wr_yes rfl rfl ?_
      refine wr_y rfl (y_index1 Tryz.underlying24 sz3 rfl rfl (h_a.c _) (by omega) (by omega)) ?_
      refine wr_yes rfl rfl ?_
      refine wr_y rfl (y_ldI Tryz.underlying3 rfl rfl (h_a.c _) (by omega) (by omega)) ?_
      refine wr_yes rfl rfl ?_
      refine wr_y rfl (y_move rfl) ?_
      refine wr_yes rfl rfl ?_
      refine wr_y rfl (y_len Tryz.underlying24 rfl) ?_
      refine wr_yes rfl rfl ?_
      refine wr_y rfl (Yl.f (y_ge rfl rfl) (by omega)) ?_
      refine wr_y rfl (y_pickF rfl rfl) ?_
      refine wr_y rfl (y_move rfl) ?_
      refine wr_yes rfl rfl ?_
      refine wr_y rfl (y_move rfl) ?_
      refine wr_yes rfl rfl ?_
      refine wr_y rfl (y_move rfl) ?_
      refine wr_yes rfl rfl ?_
      refine wr_y rfl (y_move rfl) ?_
      refine wr_yes rfl rfl ?_
      refine wr_y rfl (y_index1 Tryz.underlying24 sz3 rfl rfl (h_a.c _) (by omega) (by omega)) ?_
      refine wr_yes rfl rfl ?_
      refine wr_y rfl (y_ldI Tryz.underlying3 rfl rfl (h_a.c _) (by omega) (by omega)) ?_
      refine wr_yes rfl rfl ?_
      refine wr_y rfl (y_index1 Tryz.underlying24 sz3 rfl rfl (rdr 0 rfl) (by omega) (by omega)) ?_
      refine wr_yes rfl rfl ?_
      refine wr_y rfl (y_ldI Tryz.underlying3 rfl rfl (rdr 0 rfl) (by omega) (by omega)) ?_
      refine wr_yes rfl rfl ?_
      refine wr_y rfl (Yl.f (y_ge rfl rfl) (fun h => by
            obtain ⟨q, q0, q1, e⟩ := hV _ ha.1 ha.2 h
            have := rd_inj hnd q0 (by omega) hi0 (by omega) e
            omega)) ?_
      refine wr_y rfl (y_pickF rfl rfl) ?_
      refine wr_nil ?_
      refine w_false rfl ?_
      refine w_skip ?_
      refine w_reg ?_
      refine wr_y rfl (y_move rfl) ?_
      refine wr_y rfl (y_move rfl) ?_
      refine wr_y rfl (y_move rfl) ?_
      refine wr_y rfl (y_index1 Tryz.underlying24 sz3 rfl rfl (h_a.c _) (by omega) (by omega)) ?_
      refine wr_y rfl (y_ldI Tryz.underlying3 rfl rfl (h_a.c _) (by omega) (by omega)) ?_
      refine wr_y rfl (y_move rfl) ?_
      refine wr_y rfl (y_index1 Tryz.underlying24 sz3 rfl rfl (rdr 0 rfl) (by omega) (by omega)) ?_
      refine wr_n (a_storeI 0 rfl sz3 rfl rfl (by omega) (by omega)) ?_
      rintro _ _ rfl
      refine wr_rows (R1 := [⟨3, 1, (some ⟨g_1, 0, none⟩), a.length, a.length, ints .i64 (upd D (rd a i) i), false⟩]) rfl ?_
      refine wr_nil ?_
      refine w_reg ?_
      refine wr_y rfl (y_move rfl) ?_
      refine wr_y rfl (y_addI rfl rfl (by omega)) ?_
      refine wr_y rfl (y_assign rfl) ?_
      refine wr_nil ?_
      exact ⟨i + 1, upd D (rd a i) i, ⟨(by omega), (by omega), (by rw [upd_length]; exact hDl), (fun x x0 x1 hx => by
          rw [rd_upd ha.1 x0 (by omega)] at hx
          by_cases e : x = rd a i
          · exact ⟨i, hi0, by omega, e.symm⟩
          · rw [if_neg e] at hx
            obtain ⟨q, q0, q1, h⟩ := hV x x0 x1 hx
            exact ⟨q, q0, by omega, h⟩)⟩, (by omega), (Sub.cons rfl (Sub.cons rfl (Sub.cons rfl Sub.nil))), fun _ h => h⟩
    ·
      refine w_exit ?_
      refine w_seq ?_
      refine w_reg ?_
      refine wr_y rfl (y_move rfl) ?_
      refine wr_y rfl (y_assign rfl) ?_
      refine wr_y rfl (y_assign rfl) ?_
      refine wr_nil ?_
      refine w_retR (R1 := [⟨3, 1, (some ⟨g_1, 0, none⟩), a.length, a.length, ints .i64 D, false⟩]) (fun _ h => h.sel [0] (by decide) rfl) ?_
      refine ⟨_, _, rfl, rfl, ?_⟩
      exact ⟨_, _, _, rfl, rfl⟩

set_option maxRecDepth 100000 in
theorem is16_ct {w : World} {A_a : Option Addr} {n_a c_a : Nat} {a : List Int} (h_a : Rd w A_a n_a c_a 1 (ints .i64 a)) (hp : a.Perm (iota a.length)) (hN : a.length ≤ 1000000) :
    Ct Tryz.prog 54 #[.slice A_a n_a c_a] w.heap.size w [] (fun v R' => v = .bool true) := by
  obtain rfl := h_a.lenI
  refine fn1 Tryz.func54 rfl rfl rfl ?_
  have m_a := h_a.max
  refine w_seq ?_
  refine w_reg ?_
  refine wr_y rfl (y_assign rfl) ?_
  refine wr_nil ?_
  refine w_seq ?_
  refine w_reg ?_
  refine wr_y rfl (y_move rfl) ?_
  refine wr_a rfl (a_callF en86 rfl (Ct.fresh (fun w hw => inv16_ct ((h_a.c _) w hw) hp (by omega)))) ?_
  rintro _ _ ⟨_, rfl, A_1, c_2, V_3, rfl, rfl⟩
  refine wr_y rfl (y_move rfl) ?_
  refine wr_y rfl (y_extract rfl rfl) ?_
  refine wr_y rfl (y_extract rfl rfl) ?_
  refine wr_y rfl (y_assign rfl) ?_
  refine wr_y rfl (y_assign rfl) ?_
  refine wr_nil ?_
  refine w_seq ?_
  refine w_reg ?_
  refine wr_y rfl (y_move rfl) ?_
  refine wr_y rfl (y_assign rfl) ?_
  refine wr_nil ?_
  refine w_retR (R1 := []) (fun _ h => h.sel [] (by decide) rfl) ?_
  refine ⟨_, rfl, ?_⟩
  rfl

theorem cnt_part {u : List Int} {i j : Int} (j0 : 0 ≤ j) : ((iota (j + 1).toNat).countP fun x => decide (tl u x i)) = ((iota j.toNat).countP fun x => decide (tl u x i)) + if tl u j i then 1 else 0 := by
  rw [iota_succ j0, List.countP_append, List.countP_singleton]
  simp only [decide_eq_true_eq]
theorem cnt_yes {u : List Int} {i j z : Int} (j0 : 0 ≤ j) (hz : z = 1 + (((iota j.toNat).countP fun x => decide (tl u x i) : Nat) : Int)) (h : rd u j < rd u i ∨ rd u j = rd u i ∧ j < i) : z + 1 = 1 + (((iota (j + 1).toNat).countP fun x => decide (tl u x i) : Nat) : Int) := by
  rw [cnt_part j0, if_pos (show tl u j i from h), hz]; omega
theorem cnt_no {u : List Int} {i j z : Int} (j0 : 0 ≤ j) (hz : z = 1 + (((iota j.toNat).countP fun x => decide (tl u x i) : Nat) : Int)) (h : ¬ (rd u j < rd u i ∨ rd u j = rd u i ∧ j < i)) : z = 1 + (((iota (j + 1).toNat).countP fun x => decide (tl u x i) : Nat) : Int) := by
  rw [cnt_part j0, if_neg (show ¬ tl u j i from h), hz]; omega
theorem cnt_bd (u : List Int) (i j : Int) : (((iota j.toNat).countP fun x => decide (tl u x i) : Nat) : Int) ≤ j.toNat := by
  have := List.countP_le_length (p := fun x => decide (tl u x i)) (l := iota j.toNat)
  rw [iota_len] at this
  omega
theorem cnt0_yes {u : List Int} {i j z : Int} (j0 : 0 ≤ j) (hz : z = (((iota j.toNat).countP fun x => decide (tl u x i) : Nat) : Int)) (h : rd u j < rd u i ∨ rd u j = rd u i ∧ j < i) : z + 1 = (((iota (j + 1).toNat).countP fun x => decide (tl u x i) : Nat) : Int) := by
  have := cnt_yes (z := 1 + z) j0 (by rw [hz]) h
  omega
theorem cnt0_no {u : List Int} {i j z : Int} (j0 : 0 ≤ j) (hz : z = (((iota j.toNat).countP fun x => decide (tl u x i) : Nat) : Int)) (h : ¬ (rd u j < rd u i ∨ rd u j = rd u i ∧ j < i)) : z = (((iota (j + 1).toNat).countP fun x => decide (tl u x i) : Nat) : Int) := by
  have := cnt_no (z := 1 + z) j0 (by rw [hz]) h
  omega
theorem fsL_step {u acc : List Int} {i j z : Int} (i0 : 0 ≤ i) (hi : i < u.length) (hj : j = u.length) (hz : z = (((iota j.toNat).countP fun x => decide (tl u x i) : Nat) : Int)) (h : acc = (iota i.toNat).map (lfC u)) : acc ++ [z] = (iota (i + 1).toNat).map (lfC u) := by
  rw [iota_succ i0, List.map_append, h, hz, hj, Int.toNat_natCast]
  rfl
theorem fsL_perm {u : List Int} (hu : ByteL u) : (fsL u).Perm (iota (fsL u).length) := by
  rw [fsL_len]
  exact bij_perm (fun x h0 h1 => lf_bd (l := u) hu h0 h1) fun x y x0 x1 y0 y1 e => lf_inj (l := u) hu x0 x1 y0 y1 e
set_option maxRecDepth 100000 in
set_option maxHeartbeats 800000 in
theorem lfOf22_ct {w : World} {A_u : Option Addr} {n_u c_u : Nat} {u : List Int} (h_u : Rd w A_u n_u c_u 1 (ints .u8 u)) (bh_u : ByteL u) (hN : u.length ≤ 1000000) :
    Ct Tryz.prog 31 #[.slice A_u n_u c_u] w.heap.size w [] (fun v R' => ∃ A c, v = .slice A (fsL u).length c ∧ R' = [⟨3, 1, A, (fsL u).length, c, ints .i64 (fsL u), false⟩]) := by
  obtain rfl := h_u.lenI
  refine fn1 Tryz.func31 rfl rfl rfl ?_
  have m_u := h_u.max
  refine w_seq ?_
  refine w_reg ?_
  refine wr_y rfl (y_assign rfl) ?_
  refine wr_nil ?_
  refine w_seq ?_
  refine w_reg ?_
  refine wr_sub (R1 := [⟨3, 1, none, 0, 0, ints .i64 ([]), false⟩]) (Sub.refl _) (fun _ h => h.nil 3 1) ?_
  refine wr_y rfl (y_assign rfl) ?_
  refine wr_nil ?_
  refine w_seq ?_
  refine w_seq ?_
  refine w_reg ?_
  refine wr_y rfl (y_assign rfl) ?_
  refine wr_nil ?_
  refine w_block ?_
  refine w_loop5 (fun (A1 : Option Addr) (n1 : Nat) (c1 : Nat) (acc : List Int) (i : Int) => [(0, .slice A_u u.length c_u), (3, .slice A1 n1 c1), (4, .int .i64 i)]) (fun (A1 : Option Addr) (n1 : Nat) (c1 : Nat) (acc : List Int) (i : Int) => [⟨3, 1, A1, n1, c1, ints .i64 acc, false⟩]) (fun (A1 : Option Addr) (n1 : Nat) (c1 : Nat) (acc : List Int) (i : Int) => (n1 = acc.length) ∧ (0 ≤ i) ∧ (i ≤ u.length) ∧ (acc = (iota i.toNat).map (lfC u))) (fun (A1 : Option Addr) (n1 : Nat) (c1 : Nat) (acc : List Int) (i : Int) => (u.length - i).toNat) ?_ ?_
  ·
    exact ⟨none, 0, 0, [], 0, ⟨(rfl), (by omega), (by omega), (rfl)⟩, (Sub.cons rfl (Sub.cons rfl (Sub.cons rfl Sub.nil))), fun _ h => h⟩
  intro A1 n1 c1 acc i ⟨hn1, hi0, hi1, hacc⟩
  have hal := congrArg List.length hacc
  rw [List.length_map, iota_len] at hal
  refine w_seq ?_
  refine w_seq ?_
  refine w_reg ?_
  refine wr_y rfl (y_move rfl) ?_
  refine wr_y rfl (y_move rfl) ?_
  refine wr_y rfl (y_len Tryz.underlying23 rfl) ?_
  refine wr_y rfl (y_lt rfl rfl) ?_
  refine wr_nil ?_
  refine w_if rfl (fun hc1 => ?_) (fun hc1 => ?_)
  ·
    refine w_skip ?_
    refine w_seq ?_
    refine w_block ?_
    refine w_seq ?_
    refine w_reg ?_
    refine wr_y rfl (y_assign rfl) ?_
    refine wr_nil ?_
    refine w_seq ?_
    refine w_seq ?_
    refine w_reg ?_
    refine wr_y rfl (y_assign rfl) ?_
    refine wr_nil ?_
    refine w_block ?_
    refine w_loop2 (fun (j : Int) (z : Int) => [(0, .slice A_u u.length c_u), (3, .slice A1 n1 c1), (4, .int .i64 i), (5, .int .i64 z), (6, .int .i64 j)]) (fun (j : Int) (z : Int) => [⟨3, 1, A1, n1, c1, ints .i64 acc, false⟩]) (fun (j : Int) (z : Int) => (0 ≤ j) ∧ (j ≤ u.length) ∧ (z = (((iota j.toNat).countP fun x => decide (tl u x i) : Nat) : Int))) (fun (j : Int) (z : Int) => (u.length - j).toNat) ?_ ?_
    ·
      exact ⟨0, 0, ⟨(by omega), (by omega), (rfl)⟩, (Sub.cons rfl (Sub.cons rfl (Sub.cons rfl (Sub.cons rfl (Sub.cons rfl Sub.nil))))), fun _ h => h⟩
    intro j z ⟨hj0, hj1, hz⟩
    have hzb := cnt_bd u i j
    refine w_seq ?_
    refine w_seq ?_
    refine w_reg ?_
    refine wr_y rfl (y_move rfl) ?_
    refine wr_y rfl (y_move rfl) ?_
    refine wr_y rfl (y_len Tryz.underlying23 rfl) ?_
    refine wr_y rfl (y_lt rfl rfl) ?_
    refine wr_nil ?_
    refine w_if rfl (fun hc2 => ?_) (fun hc2 => ?_)
    ·
      refine w_skip ?_
      refine w_seq ?_
      refine w_block ?_
      refine w_join0 [(0, .slice A_u u.length c_u), (3, .slice A1 n1 c1), (4, .int .i64 i), (5, .int .i64 z), (6, .int .i64 j), (43, .bool (decide (((rd u j) < (rd u i)) ∨ (((rd u j) = (rd u i)) ∧ (j < i)))))] [⟨3, 1, A1, n1, c1, ints .i64 acc, false⟩] ?_ ?_
      ·
        refine w_regd mixed ?_
        refine wd_y 0 rfl (by kernel_rfl) rfl (y_move rfl) ?_
        refine wd_y 1 rfl (by kernel_rfl) rfl (y_move rfl) ?_
        refine wd_y 2 rfl (by kernel_rfl) rfl (y_index1 Tryz.underlying23 sz5 rfl rfl (h_u.c _) (by omega) (by omega)) ?_
        refine wd_y 3 rfl (by kernel_rfl) rfl (y_ldI Tryz.underlying5 rfl rfl (h_u.c _) (by omega) (by omega)) ?_
        refine wd_y 4 rfl (by kernel_rfl) rfl (y_move rfl) ?_
        refine wd_y 5 rfl (by kernel_rfl) rfl (y_move rfl) ?_
        refine wd_y 6 rfl (by kernel_rfl) rfl (y_index1 Tryz.underlying23 sz5 rfl rfl (h_u.c _) (by omega) (by omega)) ?_
        refine wd_y 7 rfl (by kernel_rfl) rfl (y_ldI Tryz.underlying5 rfl rfl (h_u.c _) (by omega) (by omega)) ?_
        refine wd_y 8 rfl (by kernel_rfl) rfl (y_lt rfl rfl) ?_
        refine wd_y 9 rfl (by kernel_rfl) rfl (y_move rfl) ?_
        refine wd_case 28 rfl (fun hc3 => ?_) (fun hc3 => ?_)
        ·
          refine wd_no 10 rfl (by kernel_rfl) rfl rfl rfl rfl ?_
          refine wd_no 11 rfl (by kernel_rfl) rfl rfl rfl rfl ?_
          refine wd_no 12 rfl (by kernel_rfl) rfl rfl rfl rfl ?_
          refine wd_no 13 rfl (by kernel_rfl) rfl rfl rfl rfl ?_
          refine wd_no 14 rfl (by kernel_rfl) rfl rfl rfl rfl ?_
          refine wd_no 15 rfl (by kernel_rfl) rfl rfl rfl rfl ?_
          refine wd_no 16 rfl (by kernel_rfl) rfl rfl rfl rfl ?_
          refine wd_no 17 rfl (by kernel_rfl) rfl rfl rfl rfl ?_
          refine wd_no 18 rfl (by kernel_rfl) rfl rfl rfl rfl ?_
          refine wd_no 19 rfl (by kernel_rfl) rfl rfl rfl rfl ?_
          refine wd_nou 20 rfl (by kernel_rfl) rfl rfl rfl ?_
          refine wd_nou 21 rfl (by kernel_rfl) rfl rfl rfl ?_
          refine wd_nou 22 rfl (by kernel_rfl) rfl rfl rfl ?_
          refine wd_no 23 rfl (by kernel_rfl) rfl rfl rfl rfl ?_
          refine wd_y 24 rfl (by kernel_rfl) rfl (y_pickT rfl rfl) ?_
          refine wd_nil (by kernel_rfl) ?_
          exact ⟨(Sub.cons rfl (Sub.cons rfl (Sub.cons rfl (Sub.cons rfl (Sub.cons rfl (Sub.to rfl (mb_t (by first | omega | exact ⟨fun h => ⟨(by assumption), h⟩, fun h => h.2⟩ | exact .inl (by assumption) | exact ⟨.inr, fun h => h.resolve_left (by assumption)⟩ | exact ⟨fun h => h.resolve_left (by assumption), .inr⟩ | simp [*])) Sub.nil)))))), fun _ h => h⟩
        ·
          refine wd_yg 10 rfl (by kernel_rfl) rfl rfl rfl (y_move rfl) ?_
          refine wd_yg 11 rfl (by kernel_rfl) rfl rfl rfl (y_move rfl) ?_
          refine wd_yg 12 rfl (by kernel_rfl) rfl rfl rfl (y_index1 Tryz.underlying23 sz5 rfl rfl (h_u.c _) (by omega) (by omega)) ?_
          refine wd_yg 13 rfl (by kernel_rfl) rfl rfl rfl (y_ldI Tryz.underlying5 rfl rfl (h_u.c _) (by omega) (by omega)) ?_
          refine wd_yg 14 rfl (by kernel_rfl) rfl rfl rfl (y_move rfl) ?_
          refine wd_yg 15 rfl (by kernel_rfl) rfl rfl rfl (y_move rfl) ?_
          refine wd_yg 16 rfl (by kernel_rfl) rfl rfl rfl (y_index1 Tryz.underlying23 sz5 rfl rfl (h_u.c _) (by omega) (by omega)) ?_
          refine wd_yg 17 rfl (by kernel_rfl) rfl rfl rfl (y_ldI Tryz.underlying5 rfl rfl (h_u.c _) (by omega) (by omega)) ?_
          refine wd_yg 18 rfl (by kernel_rfl) rfl rfl rfl (y_eq rfl rfl) ?_
          refine wd_yg 19 rfl (by kernel_rfl) rfl rfl rfl (y_move rfl) ?_
          refine wd_case 38 rfl (fun hc4 => ?_) (fun hc4 => ?_)
          ·
            refine wd_yg 20 rfl (by kernel_rfl) rfl rfl rfl (y_move rfl) ?_
            refine wd_yg 21 rfl (by kernel_rfl) rfl rfl rfl (y_move rfl) ?_
            refine wd_yg 22 rfl (by kernel_rfl) rfl rfl rfl (y_lt rfl rfl) ?_
            refine wd_yg 23 rfl (by kernel_rfl) rfl rfl rfl (y_pickT rfl rfl) ?_
            refine wd_y 24 rfl (by kernel_rfl) rfl (y_pickF rfl rfl) ?_
            refine wd_nil (by kernel_rfl) ?_
            exact ⟨(Sub.cons rfl (Sub.cons rfl (Sub.cons rfl (Sub.cons rfl (Sub.cons rfl (Sub.to rfl (mb (by first | omega | exact ⟨fun h => ⟨(by assumption), h⟩, fun h => h.2⟩ | exact .inl (by assumption) | exact ⟨.inr, fun h => h.resolve_left (by assumption)⟩ | exact ⟨fun h => h.resolve_left (by assumption), .inr⟩ | simp [*])) Sub.nil)))))), fun _ h => h⟩
          ·
            refine wd_no 20 rfl (by kernel_rfl) rfl rfl rfl rfl ?_
            refine wd_no 21 rfl (by kernel_rfl) rfl rfl rfl rfl ?_
            refine wd_no 22 rfl (by kernel_rfl) rfl rfl rfl rfl ?_
            refine wd_yg 23 rfl (by kernel_rfl) rfl rfl rfl (y_pickF rfl rfl) ?_
            refine wd_y 24 rfl (by kernel_rfl) rfl (y_pickF rfl rfl) ?_
            refine wd_nil (by kernel_rfl) ?_
            exact ⟨(Sub.cons rfl (Sub.cons rfl (Sub.cons rfl (Sub.cons rfl (Sub.cons rfl (Sub.to rfl (mb_f (by first | omega | exact ⟨fun h => ⟨(by assumption), h⟩, fun h => h.2⟩ | exact .inl (by assumption) | exact ⟨.inr, fun h => h.resolve_left (by assumption)⟩ | exact ⟨fun h => h.resolve_left (by assumption), .inr⟩ | simp [*])) Sub.nil)))))), fun _ h => h⟩
      refine w_if rfl (fun hc5 => ?_) (fun hc5 => ?_)
      ·
        refine w_reg ?_
        refine wr_y rfl (y_move rfl) ?_
        refine wr_y rfl (y_addI rfl rfl (by omega)) ?_
        refine wr_y rfl (y_assign rfl) ?_
        refine wr_nil ?_
        refine w_reg ?_
        refine wr_y rfl (y_move rfl) ?_
        refine wr_y rfl (y_addI rfl rfl (by omega)) ?_
        refine wr_y rfl (y_assign rfl) ?_
        refine wr_nil ?_
        exact ⟨j + 1, z + 1, ⟨(by omega), (by omega), (cnt0_yes hj0 hz (by assumption))⟩, (by omega), (Sub.cons rfl (Sub.cons rfl (Sub.cons rfl (Sub.cons rfl (Sub.cons rfl Sub.nil))))), fun _ h => h⟩
      ·
        refine w_skip ?_
        refine w_reg ?_
        refine wr_y rfl (y_move rfl) ?_
        refine wr_y rfl (y_addI rfl rfl (by omega)) ?_
        refine wr_y rfl (y_assign rfl) ?_
        refine wr_nil ?_
        exact ⟨j + 1, z, ⟨(by omega), (by omega), (cnt0_no hj0 hz (by assumption))⟩, (by omega), (Sub.cons rfl (Sub.cons rfl (Sub.cons rfl (Sub.cons rfl (Sub.cons rfl Sub.nil))))), fun _ h => h⟩
    ·
      refine w_exit ?_
      refine w_reg ?_
      refine wr_y rfl (y_move rfl) ?_
      refine wr_y rfl (y_move rfl) ?_
      refine wr_a rfl (a_litI .i64 [z] Tryz.underlying24 zs3 rfl rfl rfl) ?_
      rintro _ _ ⟨g_2, rfl, rfl⟩
      refine wr_a rfl (a_appendI 1 rfl Tryz.underlying24 zb3 rfl rfl rfl (rdr 0 rfl) (by omega)) ?_
      rintro _ _ ⟨A_3, c_4, rfl, rfl⟩
      refine wr_rows (R1 := [⟨3, 1, (some ⟨g_2, 0, none⟩), 1, 1, ints .i64 ([z]), false⟩, ⟨3, 1, A_3, (n1 + 1), c_4, ints .i64 (acc ++ ([z])), false⟩]) rfl ?_
      refine wr_as (v := .slice A_3 (n1 + 1) c_4) rfl ?_
      refine wr_y rfl (y_assign rfl) ?_
      refine wr_nil ?_
      refine w_reg ?_
      refine wr_y rfl (y_move rfl) ?_
      refine wr_y rfl (y_addI rfl rfl (by omega)) ?_
      refine wr_y rfl (y_assign rfl) ?_
      refine wr_nil ?_
      exact ⟨A_3, n1 + 1, c_4, acc ++ ([z]), i + 1, ⟨(by rw [List.length_append, hn1]; try rfl), (by omega), (by omega), (fsL_step hi0 (by omega) (by omega) hz hacc)⟩, (by omega), (Sub.cons rfl (Sub.cons rfl (Sub.cons rfl Sub.nil))), fun _ h => h.sel [1] (by decide) rfl⟩
  ·
    refine w_exit ?_
    refine w_seq ?_
    refine w_reg ?_
    refine wr_y rfl (y_move rfl) ?_
    refine wr_y rfl (y_assign rfl) ?_
    refine wr_nil ?_
    refine w_retR (R1 := [⟨3, 1, A1, n1, c1, ints .i64 acc, false⟩]) (fun _ h => h.sel [0] (by decide) rfl) ?_
    refine ⟨_, rfl, ?_⟩
    obtain rfl : acc = fsL u := by rw [hacc, show i.toNat = u.length by omega]; rfl
    obtain rfl := hn1
    exact ⟨_, _, rfl, rfl⟩

set_option maxRecDepth 100000 in
set_option maxHeartbeats 1500000 in
theorem cycles_ct {w : World} {A_p : Option Addr} {n_p c_p : Nat} {p : List Int} (h_p : Rd w A_p n_p c_p 1 (ints .i64 p)) (hp : p.Perm (iota p.length)) (hN : p.length ≤ 1000000) :
    Ct Tryz.prog 37 #[.slice A_p n_p c_p] w.heap.size w [] (fun v R' => ∃ (A : Option Addr) (c : Nat) (vals : List Value) (Rs : List Row), v = .tuple #[.slice A vals.length c, .bool true] ∧ SlR .i64 Rs vals (cycL p) ∧ R' = ⟨24, 1, A, vals.length, c, vals, false⟩ :: Rs) := by
  obtain rfl := h_p.lenI
  refine fn2 Tryz.func37 rfl rfl rfl ?_
  have m_p := h_p.max
  refine w_seq ?_
  refine w_reg ?_
  refine wr_y rfl (y_assign rfl) ?_
  refine wr_y rfl (y_assign rfl) ?_
  refine wr_nil ?_
  refine w_seq ?_
  refine w_seq ?_
  refine w_reg ?_
  refine wr_y rfl (y_move rfl) ?_
  refine wr_a rfl (a_callF en65 rfl (Ct.quiet (fun w hw => ris_ct ((h_p.c _) w hw) hp hN))) ?_
  rintro _ _ ⟨rfl, rfl⟩
  refine wr_y rfl (y_not rfl) ?_
  refine wr_nil ?_
  refine w_false rfl ?_
  refine w_skip ?_
  refine w_seq ?_
  refine w_reg ?_
  refine wr_y rfl (y_move rfl) ?_
  refine wr_y rfl (y_len Tryz.underlying24 rfl) ?_
  refine wr_a rfl (a_makeB Tryz.underlying101 zb4 rfl rfl (by omega) (by omega) (by omega)) ?_
  rintro _ _ ⟨g_1, rfl, rfl⟩
  refine wr_rows (R1 := (⟨4, 1, (some ⟨g_1, 0, none⟩), p.length, p.length, bools (List.replicate p.length false), false⟩ :: [])) rfl ?_
  refine wr_as (v := .slice (some ⟨g_1, 0, none⟩) p.length p.length) rfl ?_
  refine wr_y rfl (y_assign rfl) ?_
  refine wr_nil ?_
  refine w_seq ?_
  refine w_reg ?_
  refine wr_a rfl (a_lit [] Tryz.underlying59 zs24 rfl rfl rfl rfl) ?_
  rintro _ _ ⟨g_3, rfl, rfl⟩
  refine wr_y rfl (y_assign rfl) ?_
  refine wr_nil ?_
  refine w_seq ?_
  refine w_seq ?_
  refine w_reg ?_
  refine wr_y rfl (y_move rfl) ?_
  refine wr_y rfl (y_len Tryz.underlying24 rfl) ?_
  refine wr_y rfl (y_move rfl) ?_
  refine wr_nil ?_
  refine w_block ?_
  refine w_loop8 (fun (i : Int) (A1 : Option Addr) (n1 : Nat) (c1 : Nat) (vals : List Value) (ls : List (List Int)) (E : List Bool) (Rs : List Row) => [(0, .slice A_p p.length c_p), (4, .slice (some ⟨g_1, 0, none⟩) p.length p.length), (5, .slice A1 n1 c1), (17, .int .i64 ((p.length : Nat) : Int)), (18, .int .i64 i)]) (fun (i : Int) (A1 : Option Addr) (n1 : Nat) (c1 : Nat) (vals : List Value) (ls : List (List Int)) (E : List Bool) (Rs : List Row) => (⟨24, 1, A1, n1, c1, vals, false⟩ :: ⟨4, 1, (some ⟨g_1, 0, none⟩), p.length, p.length, bools E, false⟩ :: Rs)) (fun (i : Int) (A1 : Option Addr) (n1 : Nat) (c1 : Nat) (vals : List Value) (ls : List (List Int)) (E : List Bool) (Rs : List Row) => (0 ≤ i) ∧ (i ≤ p.length) ∧ (n1 = vals.length) ∧ (SlR .i64 Rs vals ls) ∧ (cycK p i.toNat = (E, ls))) (fun (i : Int) (A1 : Option Addr) (n1 : Nat) (c1 : Nat) (vals : List Value) (ls : List (List Int)) (E : List Bool) (Rs : List Row) => (p.length - i).toNat) ?_ ?_
  ·
    exact ⟨0, some ⟨g_3, 0, none⟩, 0, 0, [], [], List.replicate p.length false, [], ⟨(by omega), (by omega), (rfl), (SlR.nil _), (rfl)⟩, (Sub.cons rfl (Sub.cons rfl (Sub.cons rfl (Sub.cons rfl (Sub.cons rfl Sub.nil))))), fun _ h => h⟩
  intro i A1 n1 c1 vals ls E Rs ⟨hi0, hi1, hn1, hsl, hcy⟩
  have hEl : E.length = p.length := by have h := (cycK_facts hp i.toNat (by omega)).1; rw [hcy] at h; exact h
  have hfew : vals.length ≤ i.toNat := by have h := cycK_few p i.toNat; rw [hcy] at h; rw [hsl.1]; exact h
  refine w_seq ?_
  refine w_reg ?_
  refine wr_y rfl (y_lt rfl rfl) ?_
  refine wr_nil ?_
  refine w_seq ?_
  refine w_if rfl (fun hc1 => ?_) (fun hc1 => ?_)
  ·
    refine w_skip ?_
    refine w_seq ?_
    refine w_block ?_
    refine w_seq ?_
    refine w_reg ?_
    refine wr_y rfl (y_move rfl) ?_
    refine wr_y rfl (y_assign rfl) ?_
    refine wr_nil ?_
    refine w_seq ?_
    refine w_reg ?_
    refine wr_sub (R1 := (⟨3, 1, none, 0, 0, ints .i64 ([]), false⟩ :: ⟨24, 1, A1, n1, c1, vals, false⟩ :: ⟨4, 1, (some ⟨g_1, 0, none⟩), p.length, p.length, bools E, false⟩ :: Rs)) (Sub.refl _) (fun _ h => h.nil 3 1) ?_
    refine wr_y rfl (y_assign rfl) ?_
    refine wr_nil ?_
    refine w_seq ?_
    refine w_seq ?_
    refine w_reg ?_
    refine wr_y rfl (y_move rfl) ?_
    refine wr_y rfl (y_assign rfl) ?_
    refine wr_nil ?_
    refine w_block ?_
    refine w_loop7 (fun (k : Int) (A2 : Option Addr) (n2 : Nat) (c2 : Nat) (acc : List Int) (E2 : List Bool) (f : Nat) => [(0, .slice A_p p.length c_p), (4, .slice (some ⟨g_1, 0, none⟩) p.length p.length), (5, .slice A1 n1 c1), (7, .slice A2 n2 c2), (8, .int .i64 k), (17, .int .i64 ((p.length : Nat) : Int)), (18, .int .i64 i)]) (fun (k : Int) (A2 : Option Addr) (n2 : Nat) (c2 : Nat) (acc : List Int) (E2 : List Bool) (f : Nat) => (⟨3, 1, A2, n2, c2, ints .i64 acc, false⟩ :: ⟨24, 1, A1, n1, c1, vals, false⟩ :: ⟨4, 1, (some ⟨g_1, 0, none⟩), p.length, p.length, bools E2, false⟩ :: Rs)) (fun (k : Int) (A2 : Option Addr) (n2 : Nat) (c2 : Nat) (acc : List Int) (E2 : List Bool) (f : Nat) => (0 ≤ k) ∧ (k < p.length) ∧ (n2 = acc.length) ∧ (E2.length = p.length) ∧ (cntF E2 ≤ f) ∧ ((acc ++ (walkC p f E2 k).1, (walkC p f E2 k).2) = walkC p p.length E i)) (fun (k : Int) (A2 : Option Addr) (n2 : Nat) (c2 : Nat) (acc : List Int) (E2 : List Bool) (f : Nat) => f) ?_ ?_
    ·
      exact ⟨i, none, 0, 0, [], E, p.length, ⟨(by omega), (by omega), (rfl), (hEl), (by have : cntF E ≤ E.length := List.countP_le_length; omega), (rfl)⟩, (Sub.cons rfl (Sub.cons rfl (Sub.cons rfl (Sub.cons rfl (Sub.cons rfl (Sub.cons rfl (Sub.cons rfl Sub.nil))))))), fun _ h => h⟩
    intro k A2 n2 c2 acc E2 f ⟨hk0, hk1, hn2, hE2l, hf, hw⟩
    have hal := walk_bound hp hEl hi0 (by omega) hw
    refine w_seq ?_
    refine w_seq ?_
    refine w_reg ?_
    refine wr_y rfl (y_move rfl) ?_
    refine wr_y rfl (y_move rfl) ?_
    refine wr_y rfl (y_index1 Tryz.underlying101 sz4 rfl rfl (rdr 2 rfl) (by omega) (by omega)) ?_
    refine wr_y rfl (y_ldB Tryz.underlying4 rfl rfl (rdr 2 rfl) (by omega) (by omega)) ?_
    refine wr_y rfl (y_notD rfl) ?_
    refine wr_nil ?_
    refine w_if rfl (fun hc2 => ?_) (fun hc2 => ?_)
    ·
      have hgo := walkC_go (p := p) hk0 (by omega) hf hc2
      have hup := cntF_upd hk0 (by omega) hc2
      have hpos := cntF_pos hk0 (by omega) hc2
      have hpk := mem_iota.1 (hp.subset (rd_mem (L := p) hk0 hk1))
      refine w_skip ?_
      refine w_seq ?_
      refine w_block ?_
      refine w_seq ?_
      refine w_reg ?_
      refine wr_y rfl (y_move rfl) ?_
      refine wr_y rfl (y_move rfl) ?_
      refine wr_y rfl (y_index1 Tryz.underlying101 sz4 rfl rfl (rdr 2 rfl) (by omega) (by omega)) ?_
      refine wr_n (a_storeB 2 rfl sz4 rfl rfl (by omega) (by omega)) ?_
      rintro _ _ rfl
      refine wr_rows (R1 := (⟨3, 1, A2, n2, c2, ints .i64 acc, false⟩ :: ⟨24, 1, A1, n1, c1, vals, false⟩ :: ⟨4, 1, (some ⟨g_1, 0, none⟩), p.length, p.length, bools (updB E2 k true), false⟩ :: Rs)) rfl ?_
      refine wr_nil ?_
      refine w_reg ?_
      refine wr_y rfl (y_move rfl) ?_
      refine wr_y rfl (y_move rfl) ?_
      refine wr_a rfl (a_litI .i64 [k] Tryz.underlying24 zs3 rfl rfl rfl) ?_
      rintro _ _ ⟨g_6, rfl, rfl⟩
      refine wr_a rfl (a_appendI 1 rfl Tryz.underlying24 zb3 rfl rfl rfl (rdr 0 rfl) (by omega)) ?_
      rintro _ _ ⟨A_7, c_8, rfl, rfl⟩
      refine wr_rows (R1 := (⟨3, 1, (some ⟨g_6, 0, none⟩), 1, 1, ints .i64 ([k]), false⟩ :: ⟨3, 1, A_7, (n2 + 1), c_8, ints .i64 (acc ++ ([k])), false⟩ :: ⟨24, 1, A1, n1, c1, vals, false⟩ :: ⟨4, 1, (some ⟨g_1, 0, none⟩), p.length, p.length, bools (updB E2 k true), false⟩ :: Rs)) rfl ?_
      refine wr_as (v := .slice A_7 (n2 + 1) c_8) rfl ?_
      refine wr_y rfl (y_assign rfl) ?_
      refine wr_nil ?_
      refine w_reg ?_
      refine wr_y rfl (y_move rfl) ?_
      refine wr_y rfl (y_move rfl) ?_
      refine wr_y rfl (y_index1 Tryz.underlying24 sz3 rfl rfl (h_p.c _) (by omega) (by omega)) ?_
      refine wr_y rfl (y_ldI Tryz.underlying3 rfl rfl (h_p.c _) (by omega) (by omega)) ?_
      refine wr_y rfl (y_assign rfl) ?_
      refine wr_nil ?_
      exact ⟨rd p k, A_7, n2 + 1, c_8, acc ++ ([k]), updB E2 k true, (f - 1), ⟨(by omega), (by omega), (by rw [List.length_append, hn2]; rfl), (by rw [updB_len]; exact hE2l), (by omega), (by rw [← hw, hgo]; simp only [List.append_assoc, List.singleton_append])⟩, (by omega), (Sub.cons rfl (Sub.cons rfl (Sub.cons rfl (Sub.cons rfl (Sub.cons rfl (Sub.cons rfl (Sub.cons rfl Sub.nil))))))), fun _ h => h.selR (F := [_, _, _, _]) (F' := [_, _, _]) [1, 2, 3] (by decide) rfl⟩
    ·
      have hse : walkC p p.length E i = (acc, E2) := by rw [← hw, walkC_seen (Decidable.not_not.1 hc2), List.append_nil]
      refine w_exit ?_
      refine w_seq ?_
      refine w_reg ?_
      refine wr_y rfl (y_move rfl) ?_
      refine wr_y rfl (y_len Tryz.underlying24 rfl) ?_
      refine wr_y rfl (y_gt rfl rfl) ?_
      refine wr_nil ?_
      refine w_if rfl (fun hc3 => ?_) (fun hc3 => ?_)
      ·
        refine w_reg ?_
        refine wr_y rfl (y_move rfl) ?_
        refine wr_y rfl (y_move rfl) ?_
        refine wr_a rfl (a_lit [Value.slice A2 n2 c2] Tryz.underlying59 zs24 rfl rfl rfl rfl) ?_
        rintro _ _ ⟨g_10, rfl, rfl⟩
        refine wr_a rfl (a_append 2 rfl rfl Tryz.underlying59 zb24 rfl rfl rfl rfl rfl (rdr 0 rfl) (by simp [Value.oneCell']) (by dsimp only; omega)) ?_
        rintro _ _ ⟨A_11, c_12, rfl, rfl⟩
        refine wr_rows (R1 := (⟨24, 1, (some ⟨g_10, 0, none⟩), 1, 1, [Value.slice A2 n2 c2], false⟩ :: ⟨3, 1, A2, n2, c2, ints .i64 acc, false⟩ :: ⟨24, 1, A_11, (n1 + 1), c_12, vals ++ ([Value.slice A2 n2 c2]), false⟩ :: ⟨4, 1, (some ⟨g_1, 0, none⟩), p.length, p.length, bools E2, false⟩ :: Rs)) rfl ?_
        refine wr_as (v := .slice A_11 (n1 + 1) c_12) rfl ?_
        refine wr_y rfl (y_assign rfl) ?_
        refine wr_nil ?_
        refine w_reg ?_
        refine wr_y rfl (y_addI rfl rfl (by omega)) ?_
        refine wr_y rfl (y_move rfl) ?_
        refine wr_nil ?_
        exact ⟨i + 1, A_11, n1 + 1, c_12, vals ++ ([Value.slice A2 n2 c2]), (ls ++ [acc]), E2, (⟨3, 1, A2, n2, c2, ints .i64 acc, false⟩ :: Rs), ⟨(by omega), (by omega), (by rw [List.length_append, hn1]; rfl), (hsl.snoc hn2), (cyc_yes hi0 hcy hse (fun e => by rw [e] at hn2; simp at hn2; omega))⟩, (by omega), (Sub.cons rfl (Sub.cons rfl (Sub.cons rfl (Sub.cons rfl (Sub.cons rfl Sub.nil))))), fun _ h => h.selR (F := [_, _, _, _]) (F' := [_, _, _]) [2, 3, 1] (by decide) rfl⟩
      ·
        refine w_skip ?_
        refine w_reg ?_
        refine wr_y rfl (y_addI rfl rfl (by omega)) ?_
        refine wr_y rfl (y_move rfl) ?_
        refine wr_nil ?_
        exact ⟨i + 1, A1, n1, c1, vals, ls, E2, Rs, ⟨(by omega), (by omega), (hn1), (hsl), (cyc_no hi0 hcy hse (List.eq_nil_of_length_eq_zero (by omega)))⟩, (by omega), (Sub.cons rfl (Sub.cons rfl (Sub.cons rfl (Sub.cons rfl (Sub.cons rfl Sub.nil))))), fun _ h => h.selR (F := [_, _, _]) (F' := [_, _]) [1, 2] (by decide) rfl⟩
  ·
    refine w_exit ?_
    refine w_seq ?_
    refine w_reg ?_
    refine wr_y rfl (y_move rfl) ?_
    refine wr_y rfl (y_assign rfl) ?_
    refine wr_y rfl (y_assign rfl) ?_
    refine wr_nil ?_
    refine w_retR (R1 := (⟨24, 1, A1, n1, c1, vals, false⟩ :: Rs)) (fun _ h => h.selR (F := [_, _]) (F' := [_]) [0] (by decide) rfl) ?_
    refine ⟨_, _, rfl, rfl, ?_⟩
    obtain rfl : ls = cycL p := by unfold cycL; rw [← show i.toNat = p.length by omega, hcy]
    subst hn1
    exact ⟨_, _, vals, Rs, rfl, hsl, rfl⟩

set_option maxRecDepth 100000 in
set_option maxHeartbeats 1500000 in
theorem cycles22_ct {w : World} {A_p : Option Addr} {n_p c_p : Nat} {p : List Int} (h_p : Rd w A_p n_p c_p 1 (ints .i64 p)) (hp : p.Perm (iota p.length)) (hN : p.length ≤ 1000000) :
    Ct Tryz.prog 30 #[.slice A_p n_p c_p] w.heap.size w [] (fun v R' => ∃ (A : Option Addr) (c : Nat) (vals : List Value) (Rs : List Row), v = .tuple #[.slice A vals.length c, .bool true] ∧ SlR .i64 Rs vals (cycL p) ∧ R' = ⟨24, 1, A, vals.length, c, vals, false⟩ :: Rs) := by
  obtain rfl := h_p.lenI
  refine fn2 Tryz.func30 rfl rfl rfl ?_
  have m_p := h_p.max
  refine w_seq ?_
  refine w_reg ?_
  refine wr_y rfl (y_assign rfl) ?_
  refine wr_y rfl (y_assign rfl) ?_
  refine wr_nil ?_
  refine w_seq ?_
  refine w_seq ?_
  refine w_reg ?_
  refine wr_y rfl (y_move rfl) ?_
  refine wr_a rfl (a_callF en54 rfl (Ct.quiet (fun w hw => is16_ct ((h_p.c _) w hw) hp hN))) ?_
  rintro _ _ ⟨rfl, rfl⟩
  refine wr_y rfl (y_not rfl) ?_
  refine wr_nil ?_
  refine w_false rfl ?_
  refine w_skip ?_
  refine w_seq ?_
  refine w_reg ?_
  refine wr_y rfl (y_move rfl) ?_
  refine wr_y rfl (y_len Tryz.underlying24 rfl) ?_
  refine wr_a rfl (a_makeB Tryz.underlying101 zb4 rfl rfl (by omega) (by omega) (by omega)) ?_
  rintro _ _ ⟨g_1, rfl, rfl⟩
  refine wr_rows (R1 := (⟨4, 1, (some ⟨g_1, 0, none⟩), p.length, p.length, bools (List.replicate p.length false), false⟩ :: [])) rfl ?_
  refine wr_as (v := .slice (some ⟨g_1, 0, none⟩) p.length p.length) rfl ?_
  refine wr_y rfl (y_assign rfl) ?_
  refine wr_nil ?_
  refine w_seq ?_
  refine w_reg ?_
  refine wr_sub (R1 := (⟨24, 1, none, 0, 0, [], false⟩ :: ⟨4, 1, (some ⟨g_1, 0, none⟩), p.length, p.length, bools (List.replicate p.length false), false⟩ :: [])) (Sub.refl _) (fun _ h => h.nil 24 1) ?_
  refine wr_y rfl (y_assign rfl) ?_
  refine wr_nil ?_
  refine w_seq ?_
  refine w_seq ?_
  refine w_reg ?_
  refine wr_y rfl (y_assign rfl) ?_
  refine wr_nil ?_
  refine w_block ?_
  refine w_loop8 (fun (i : Int) (A1 : Option Addr) (n1 : Nat) (c1 : Nat) (vals : List Value) (ls : List (List Int)) (E : List Bool) (Rs : List Row) => [(0, .slice A_p p.length c_p), (4, .slice (some ⟨g_1, 0, none⟩) p.length p.length), (5, .slice A1 n1 c1), (6, .int .i64 i)]) (fun (i : Int) (A1 : Option Addr) (n1 : Nat) (c1 : Nat) (vals : List Value) (ls : List (List Int)) (E : List Bool) (Rs : List Row) => (⟨24, 1, A1, n1, c1, vals, false⟩ :: ⟨4, 1, (some ⟨g_1, 0, none⟩), p.length, p.length, bools E, false⟩ :: Rs)) (fun (i : Int) (A1 : Option Addr) (n1 : Nat) (c1 : Nat) (vals : List Value) (ls : List (List Int)) (E : List Bool) (Rs : List Row) => (0 ≤ i) ∧ (i ≤ p.length) ∧ (n1 = vals.length) ∧ (SlR .i64 Rs vals ls) ∧ (cycK p i.toNat = (E, ls))) (fun (i : Int) (A1 : Option Addr) (n1 : Nat) (c1 : Nat) (vals : List Value) (ls : List (List Int)) (E : List Bool) (Rs : List Row) => (p.length - i).toNat) ?_ ?_
  ·
    exact ⟨0, none, 0, 0, [], [], List.replicate p.length false, [], ⟨(by omega), (by omega), (rfl), (SlR.nil _), (rfl)⟩, (Sub.cons rfl (Sub.cons rfl (Sub.cons rfl (Sub.cons rfl Sub.nil)))), fun _ h => h⟩
  intro i A1 n1 c1 vals ls E Rs ⟨hi0, hi1, hn1, hsl, hcy⟩
  have hEl : E.length = p.length := by have h := (cycK_facts hp i.toNat (by omega)).1; rw [hcy] at h; exact h
  have hfew : vals.length ≤ i.toNat := by have h := cycK_few p i.toNat; rw [hcy] at h; rw [hsl.1]; exact h
  refine w_seq ?_
  refine w_seq ?_
  refine w_reg ?_
  refine wr_y rfl (y_move rfl) ?_
  refine wr_y rfl (y_move rfl) ?_
  refine wr_y rfl (y_len Tryz.underlying24 rfl) ?_
  refine wr_y rfl (y_lt rfl rfl) ?_
  refine wr_nil ?_
  refine w_if rfl (fun hc1 => ?_) (fun hc1 => ?_)
  ·
    refine w_skip ?_
    refine w_seq ?_
    refine w_block ?_
    refine w_seq ?_
    refine w_reg ?_
    refine wr_sub (R1 := (⟨3, 1, none, 0, 0, ints .i64 ([]), false⟩ :: ⟨24, 1, A1, n1, c1, vals, false⟩ :: ⟨4, 1, (some ⟨g_1, 0, none⟩), p.length, p.length, bools E, false⟩ :: Rs)) (Sub.refl _) (fun _ h => h.nil 3 1) ?_
    refine wr_y rfl (y_assign rfl) ?_
    refine wr_nil ?_
    refine w_seq ?_
    refine w_seq ?_
    refine w_reg ?_
    refine wr_y rfl (y_move rfl) ?_
    refine wr_y rfl (y_assign rfl) ?_
    refine wr_nil ?_
    refine w_block ?_
    refine w_loop7 (fun (k : Int) (A2 : Option Addr) (n2 : Nat) (c2 : Nat) (acc : List Int) (E2 : List Bool) (f : Nat) => [(0, .slice A_p p.length c_p), (4, .slice (some ⟨g_1, 0, none⟩) p.length p.length), (5, .slice A1 n1 c1), (6, .int .i64 i), (7, .slice A2 n2 c2), (8, .int .i64 k)]) (fun (k : Int) (A2 : Option Addr) (n2 : Nat) (c2 : Nat) (acc : List Int) (E2 : List Bool) (f : Nat) => (⟨3, 1, A2, n2, c2, ints .i64 acc, false⟩ :: ⟨24, 1, A1, n1, c1, vals, false⟩ :: ⟨4, 1, (some ⟨g_1, 0, none⟩), p.length, p.length, bools E2, false⟩ :: Rs)) (fun (k : Int) (A2 : Option Addr) (n2 : Nat) (c2 : Nat) (acc : List Int) (E2 : List Bool) (f : Nat) => (0 ≤ k) ∧ (k < p.length) ∧ (n2 = acc.length) ∧ (E2.length = p.length) ∧ (cntF E2 ≤ f) ∧ ((acc ++ (walkC p f E2 k).1, (walkC p f E2 k).2) = walkC p p.length E i)) (fun (k : Int) (A2 : Option Addr) (n2 : Nat) (c2 : Nat) (acc : List Int) (E2 : List Bool) (f : Nat) => f) ?_ ?_
    ·
      exact ⟨i, none, 0, 0, [], E, p.length, ⟨(by omega), (by omega), (rfl), (hEl), (by have : cntF E ≤ E.length := List.countP_le_length; omega), (rfl)⟩, (Sub.cons rfl (Sub.cons rfl (Sub.cons rfl (Sub.cons rfl (Sub.cons rfl (Sub.cons rfl Sub.nil)))))), fun _ h => h⟩
    intro k A2 n2 c2 acc E2 f ⟨hk0, hk1, hn2, hE2l, hf, hw⟩
    have hal := walk_bound hp hEl hi0 (by omega) hw
    refine w_seq ?_
    refine w_seq ?_
    refine w_reg ?_
    refine wr_y rfl (y_move rfl) ?_
    refine wr_y rfl (y_move rfl) ?_
    refine wr_y rfl (y_index1 Tryz.underlying101 sz4 rfl rfl (rdr 2 rfl) (by omega) (by omega)) ?_
    refine wr_y rfl (y_ldB Tryz.underlying4 rfl rfl (rdr 2 rfl) (by omega) (by omega)) ?_
    refine wr_y rfl (y_notD rfl) ?_
    refine wr_nil ?_
    refine w_if rfl (fun hc2 => ?_) (fun hc2 => ?_)
    ·
      have hgo := walkC_go (p := p) hk0 (by omega) hf hc2
      have hup := cntF_upd hk0 (by omega) hc2
      have hpos := cntF_pos hk0 (by omega) hc2
      have hpk := mem_iota.1 (hp.subset (rd_mem (L := p) hk0 hk1))
      refine w_skip ?_
      refine w_seq ?_
      refine w_block ?_
      refine w_seq ?_
      refine w_reg ?_
      refine wr_y rfl (y_move rfl) ?_
      refine wr_y rfl (y_move rfl) ?_
      refine wr_y rfl (y_index1 Tryz.underlying101 sz4 rfl rfl (rdr 2 rfl) (by omega) (by omega)) ?_
      refine wr_n (a_storeB 2 rfl sz4 rfl rfl (by omega) (by omega)) ?_
      rintro _ _ rfl
      refine wr_rows (R1 := (⟨3, 1, A2, n2, c2, ints .i64 acc, false⟩ :: ⟨24, 1, A1, n1, c1, vals, false⟩ :: ⟨4, 1, (some ⟨g_1, 0, none⟩), p.length, p.length, bools (updB E2 k true), false⟩ :: Rs)) rfl ?_
      refine wr_nil ?_
      refine w_reg ?_
      refine wr_y rfl (y_move rfl) ?_
      refine wr_y rfl (y_move rfl) ?_
      refine wr_a rfl (a_litI .i64 [k] Tryz.underlying24 zs3 rfl rfl rfl) ?_
      rintro _ _ ⟨g_3, rfl, rfl⟩
      refine wr_a rfl (a_appendI 1 rfl Tryz.underlying24 zb3 rfl rfl rfl (rdr 0 rfl) (by omega)) ?_
      rintro _ _ ⟨A_4, c_5, rfl, rfl⟩
      refine wr_rows (R1 := (⟨3, 1, (some ⟨g_3, 0, none⟩), 1, 1, ints .i64 ([k]), false⟩ :: ⟨3, 1, A_4, (n2 + 1), c_5, ints .i64 (acc ++ ([k])), false⟩ :: ⟨24, 1, A1, n1, c1, vals, false⟩ :: ⟨4, 1, (some ⟨g_1, 0, none⟩), p.length, p.length, bools (updB E2 k true), false⟩ :: Rs)) rfl ?_
      refine wr_as (v := .slice A_4 (n2 + 1) c_5) rfl ?_
      refine wr_y rfl (y_assign rfl) ?_
      refine wr_nil ?_
      refine w_reg ?_
      refine wr_y rfl (y_move rfl) ?_
      refine wr_y rfl (y_move rfl) ?_
      refine wr_y rfl (y_index1 Tryz.underlying24 sz3 rfl rfl (h_p.c _) (by omega) (by omega)) ?_
      refine wr_y rfl (y_ldI Tryz.underlying3 rfl rfl (h_p.c _) (by omega) (by omega)) ?_
      refine wr_y rfl (y_assign rfl) ?_
      refine wr_nil ?_
      exact ⟨rd p k, A_4, n2 + 1, c_5, acc ++ ([k]), updB E2 k true, (f - 1), ⟨(by omega), (by omega), (by rw [List.length_append, hn2]; rfl), (by rw [updB_len]; exact hE2l), (by omega), (by rw [← hw, hgo]; simp only [List.append_assoc, List.singleton_append])⟩, (by omega), (Sub.cons rfl (Sub.cons rfl (Sub.cons rfl (Sub.cons rfl (Sub.cons rfl (Sub.cons rfl Sub.nil)))))), fun _ h => h.selR (F := [_, _, _, _]) (F' := [_, _, _]) [1, 2, 3] (by decide) rfl⟩
    ·
      have hse : walkC p p.length E i = (acc, E2) := by rw [← hw, walkC_seen (Decidable.not_not.1 hc2), List.append_nil]
      refine w_exit ?_
      refine w_seq ?_
      refine w_reg ?_
      refine wr_y rfl (y_move rfl) ?_
      refine wr_y rfl (y_len Tryz.underlying24 rfl) ?_
      refine wr_y rfl (y_gt rfl rfl) ?_
      refine wr_nil ?_
      refine w_if rfl (fun hc3 => ?_) (fun hc3 => ?_)
      ·
        refine w_reg ?_
        refine wr_y rfl (y_move rfl) ?_
        refine wr_y rfl (y_move rfl) ?_
        refine wr_a rfl (a_lit [Value.slice A2 n2 c2] Tryz.underlying59 zs24 rfl rfl rfl rfl) ?_
        rintro _ _ ⟨g_7, rfl, rfl⟩
        refine wr_a rfl (a_append 2 rfl rfl Tryz.underlying59 zb24 rfl rfl rfl rfl rfl (rdr 0 rfl) (by simp [Value.oneCell']) (by dsimp only; omega)) ?_
        rintro _ _ ⟨A_8, c_9, rfl, rfl⟩
        refine wr_rows (R1 := (⟨24, 1, (some ⟨g_7, 0, none⟩), 1, 1, [Value.slice A2 n2 c2], false⟩ :: ⟨3, 1, A2, n2, c2, ints .i64 acc, false⟩ :: ⟨24, 1, A_8, (n1 + 1), c_9, vals ++ ([Value.slice A2 n2 c2]), false⟩ :: ⟨4, 1, (some ⟨g_1, 0, none⟩), p.length, p.length, bools E2, false⟩ :: Rs)) rfl ?_
        refine wr_as (v := .slice A_8 (n1 + 1) c_9) rfl ?_
        refine wr_y rfl (y_assign rfl) ?_
        refine wr_nil ?_
        refine w_reg ?_
        refine wr_y rfl (y_move rfl) ?_
        refine wr_y rfl (y_addI rfl rfl (by omega)) ?_
        refine wr_y rfl (y_assign rfl) ?_
        refine wr_nil ?_
        exact ⟨i + 1, A_8, n1 + 1, c_9, vals ++ ([Value.slice A2 n2 c2]), (ls ++ [acc]), E2, (⟨3, 1, A2, n2, c2, ints .i64 acc, false⟩ :: Rs), ⟨(by omega), (by omega), (by rw [List.length_append, hn1]; rfl), (hsl.snoc hn2), (cyc_yes hi0 hcy hse (fun e => by rw [e] at hn2; simp at hn2; omega))⟩, (by omega), (Sub.cons rfl (Sub.cons rfl (Sub.cons rfl (Sub.cons rfl Sub.nil)))), fun _ h => h.selR (F := [_, _, _, _]) (F' := [_, _, _]) [2, 3, 1] (by decide) rfl⟩
      ·
        refine w_skip ?_
        refine w_reg ?_
        refine wr_y rfl (y_move rfl) ?_
        refine wr_y rfl (y_addI rfl rfl (by omega)) ?_
        refine wr_y rfl (y_assign rfl) ?_
        refine wr_nil ?_
        exact ⟨i + 1, A1, n1, c1, vals, ls, E2, Rs, ⟨(by omega), (by omega), (hn1), (hsl), (cyc_no hi0 hcy hse (List.eq_nil_of_length_eq_zero (by omega)))⟩, (by omega), (Sub.cons rfl (Sub.cons rfl (Sub.cons rfl (Sub.cons rfl Sub.nil)))), fun _ h => h.selR (F := [_, _, _]) (F' := [_, _]) [1, 2] (by decide) rfl⟩
  ·
    refine w_exit ?_
    refine w_seq ?_
    refine w_reg ?_
    refine wr_y rfl (y_move rfl) ?_
    refine wr_y rfl (y_assign rfl) ?_
    refine wr_y rfl (y_assign rfl) ?_
    refine wr_nil ?_
    refine w_retR (R1 := (⟨24, 1, A1, n1, c1, vals, false⟩ :: Rs)) (fun _ h => h.selR (F := [_, _]) (F' := [_]) [0] (by decide) rfl) ?_
    refine ⟨_, _, rfl, rfl, ?_⟩
    obtain rfl : ls = cycL p := by unfold cycL; rw [← show i.toNat = p.length by omega, hcy]
    subst hn1
    exact ⟨_, _, vals, Rs, rfl, hsl, rfl⟩

end Go.Proofs.YtdfcnalkdlifiaaGreat

/-! ## F7 -/
namespace Go.Proofs.YtdfcnalkdlifiaaGreat
open Go Go.Eng Go.Pure
set_option linter.unusedVariables false
set_option maxRecDepth 100000 in
theorem cloneP_ct {w : World} {A_l : Option Addr} {n_l c_l : Nat} {l : List (Int × Int)} (h_l : Rd w A_l n_l c_l 2 (prs l)) (hN : l.length ≤ 1000000) :
    Ct Tryz.prog 34 #[.slice A_l n_l c_l] w.heap.size w [] (fun v R' => ∃ A c, v = .slice A l.length c ∧ R' = [⟨45, 2, A, l.length, c, prs l, false⟩]) := by
  obtain rfl : n_l = l.length := by have := h_l.len; rw [prs_length] at this; omega
  refine fn1 Tryz.func34 rfl rfl rfl ?_
  refine w_seq ?_
  refine w_reg ?_
  refine wr_y rfl (y_assign rfl) ?_
  refine wr_nil ?_
  refine w_seq ?_
  refine w_seq ?_
  refine w_reg ?_
  refine wr_y rfl (y_move rfl) ?_
  refine wr_y rfl (y_slNil Tryz.underlying43 rfl rfl) ?_
  refine wr_nil ?_
  refine w_cond rfl (fun hc1 => ?_) (fun hc1 => ?_)
  ·
    refine w_seq ?_
    refine w_reg ?_
    refine wr_y rfl (y_assign rfl) ?_
    refine wr_nil ?_
    refine w_retR (R1 := [⟨45, 2, none, 0, 0, prs [], false⟩]) (fun _ h => h.nilP 45) ?_
    refine ⟨_, rfl, ?_⟩
    have hA : A_l = none := by simpa using hc1
    subst hA
    obtain rfl := prs_none h_l
    exact ⟨none, 0, rfl, rfl⟩
  ·
    refine w_skip ?_
    refine w_seq ?_
    refine w_reg ?_
    refine wr_a rfl (a_litP0 Tryz.underlying43 zs45) ?_
    rintro _ _ ⟨g_2, rfl, rfl⟩
    refine wr_y rfl (y_move rfl) ?_
    refine wr_a rfl (a_appendP 0 rfl Tryz.underlying43 zb45 rfl rfl rfl rfl (h_l.c _) (by omega)) ?_
    rintro _ _ ⟨A_3, c_4, rfl, rfl⟩
    refine wr_rows (R1 := [⟨45, 2, A_3, (0 + l.length), c_4, prs (([]) ++ l), false⟩]) rfl ?_
    refine wr_as (v := .slice A_3 (0 + l.length) c_4) rfl ?_
    refine wr_y rfl (y_assign rfl) ?_
    refine wr_nil ?_
    refine w_retR (R1 := [⟨45, 2, A_3, (0 + l.length), c_4, prs (([]) ++ l), false⟩]) (fun _ h => h) ?_
    refine ⟨_, rfl, ?_⟩
    simp only [Nat.zero_add, List.nil_append]
    exact ⟨_, _, rfl, rfl⟩

set_option maxRecDepth 100000 in
theorem turns_ct {w : World} {A_ws : Option Addr} {n_ws c_ws : Nat} {vals_ws : List Value} {ws : List (List Int)} (h_ws : Rd w A_ws n_ws c_ws 1 vals_ws) (s_ws : SlW .u8 w vals_ws ws) (hN : ws.flatten.length ≤ 400000 ∧ ws.length ≤ 1000000) :
    Ct Tryz.prog 19 #[.slice A_ws n_ws c_ws] w.heap.size w [] (fun v R' => ∃ (l : List (Int × Int)) (A : Option Addr) (c : Nat), v = .slice A l.length c ∧ l.Perm (tlist ws ws.length) ∧ l.Pairwise (ordO ws) ∧ R' = [⟨45, 2, A, l.length, c, prs l, false⟩]) := by
  obtain rfl : n_ws = ws.length := by have := h_ws.len; have := s_ws.1; omega
  refine fn1 Tryz.func19 rfl rfl rfl ?_
  have m_ws := h_ws.max
  have hfl := hN.1
  refine w_seq ?_
  refine w_reg ?_
  refine wr_y rfl (y_assign rfl) ?_
  refine wr_nil ?_
  refine w_seq ?_
  refine w_reg ?_
  refine wr_y rfl (y_move rfl) ?_
  refine wr_y rfl (y_build (v := .agg #[.slice A_ws ws.length c_ws, .slice none 0 0, .slice none 0 0, .slice none 0 0]) rfl (fun w => by kernel_rfl)) ?_
  refine wr_a rfl (a_box (sz := 4) rfl rfl) ?_
  rintro _ _ ⟨g_1, rfl, rfl⟩
  refine wr_sub (R1 := [⟨45, 2, none, 0, 0, prs ([]), false⟩, ⟨3, 1, none, 0, 0, ints .i64 ([]), false⟩, ⟨3, 1, none, 0, 0, ints .i64 ([]), false⟩, ⟨67, 4, (some ⟨g_1, 0, none⟩), 1, 1, [.slice A_ws ws.length c_ws, .slice none 0 0, .slice none 0 0, .slice none 0 0], false⟩]) (Sub.refl _) (fun _ h => ((h.nil 3 1).nil 3 1).nilP 45) ?_
  refine wr_y rfl (y_assign rfl) ?_
  refine wr_nil ?_
  refine w_seq ?_
  refine w_reg ?_
  refine wr_y rfl (y_assign rfl) ?_
  refine wr_nil ?_
  refine w_seq ?_
  refine w_seq ?_
  refine w_reg ?_
  refine wr_y rfl (y_move rfl) ?_
  refine wr_y rfl (y_len Tryz.underlying22 rfl) ?_
  refine wr_y rfl (y_move rfl) ?_
  refine wr_nil ?_
  refine w_block ?_
  refine w_loop14 (fun (k : Int) (lg : Int) (A1 : Option Addr) (n1 : Nat) (c1 : Nat) (T : List (Int × Int)) (A2 : Option Addr) (n2 : Nat) (c2 : Nat) (Bs : List Int) (A3 : Option Addr) (n3 : Nat) (c3 : Nat) (Rs : List Int) => [(3, .pointer (some ⟨g_1, 0, none⟩)), (4, .int .i64 lg), (16, .slice A_ws ws.length c_ws), (17, .int .i64 ((ws.length : Nat) : Int)), (18, .int .i64 k)]) (fun (k : Int) (lg : Int) (A1 : Option Addr) (n1 : Nat) (c1 : Nat) (T : List (Int × Int)) (A2 : Option Addr) (n2 : Nat) (c2 : Nat) (Bs : List Int) (A3 : Option Addr) (n3 : Nat) (c3 : Nat) (Rs : List Int) => [⟨45, 2, A1, n1, c1, prs T, false⟩, ⟨3, 1, A2, n2, c2, ints .i64 Bs, false⟩, ⟨3, 1, A3, n3, c3, ints .i64 Rs, false⟩, ⟨67, 4, (some ⟨g_1, 0, none⟩), 1, 1, [.slice A_ws ws.length c_ws, .slice A1 n1 c1, .slice A2 n2 c2, .slice A3 n3 c3], false⟩]) (fun (k : Int) (lg : Int) (A1 : Option Addr) (n1 : Nat) (c1 : Nat) (T : List (Int × Int)) (A2 : Option Addr) (n2 : Nat) (c2 : Nat) (Bs : List Int) (A3 : Option Addr) (n3 : Nat) (c3 : Nat) (Rs : List Int) => (0 ≤ k) ∧ (k ≤ ws.length) ∧ (0 ≤ lg ∧ lg ≤ 400000) ∧ (∀ w : Int, 0 ≤ w → w < k → ((rdl ws w).length : Int) ≤ lg) ∧ (lg = 0 ∧ offs ws k.toNat = 0 ∨ 0 < lg ∧ 0 < offs ws k.toNat) ∧ (T = tlist ws k.toNat) ∧ (n1 = offs ws k.toNat) ∧ (Bs = blist ws k.toNat) ∧ (n2 = k.toNat) ∧ (Rs = (ws.take k.toNat).flatten) ∧ (n3 = offs ws k.toNat)) (fun (k : Int) (lg : Int) (A1 : Option Addr) (n1 : Nat) (c1 : Nat) (T : List (Int × Int)) (A2 : Option Addr) (n2 : Nat) (c2 : Nat) (Bs : List Int) (A3 : Option Addr) (n3 : Nat) (c3 : Nat) (Rs : List Int) => (ws.length - k).toNat) ?_ ?_
  ·
    exact ⟨0, 0, none, 0, 0, [], none, 0, 0, [], none, 0, 0, [], ⟨(by omega), (by omega), (by omega), (fun w h0 h1 => by omega), (.inl ⟨rfl, rfl⟩), (rfl), (rfl), (rfl), (rfl), (rfl), (rfl)⟩, (Sub.cons rfl (Sub.cons rfl (Sub.cons rfl (Sub.cons rfl (Sub.cons rfl Sub.nil))))), fun _ h => h⟩
  intro k lg A1 n1 c1 T A2 n2 c2 Bs A3 n3 c3 Rs ⟨hk0, hk1, hg0, hlg, hge, hT, hnT, hBs, hnB, hRs, hnR⟩
  refine w_seq ?_
  refine w_reg ?_
  refine wr_y rfl (y_lt rfl rfl) ?_
  refine wr_nil ?_
  refine w_seq ?_
  refine w_if rfl (fun hc1 => ?_) (fun hc1 => ?_)
  ·
    have hofs := offs_succ hk0 (show k < ws.length by omega)
    have hole := offs_le ws (k + 1).toNat
    refine w_skip ?_
    refine w_seq ?_
    refine w_block ?_
    refine w_seq ?_
    refine w_reg ?_
    refine wr_y rfl (y_move rfl) ?_
    refine wr_y rfl (y_index1 Tryz.underlying22 sz23 rfl rfl (h_ws.c _) (by omega) (by omega)) ?_
    obtain ⟨A_2, c_3, hv_4, hr_5, hb_6, mhr_5⟩ := s_ws.at (i := k) (by omega) (by omega)
    refine wr_y rfl (y_ld Tryz.underlying23 rfl rfl rfl (h_ws.c _) hv_4) ?_
    refine wr_y rfl (y_assign rfl) ?_
    refine wr_y rfl (y_assign rfl) ?_
    refine wr_nil ?_
    refine w_seq ?_
    refine w_regd mixed ?_
    refine wd_y 0 rfl (by kernel_rfl) rfl (y_move rfl) ?_
    refine wd_y 1 rfl (by kernel_rfl) rfl (y_move rfl) ?_
    refine wd_y 2 rfl (by kernel_rfl) rfl (y_nilCheck rfl) ?_
    refine wd_y 3 rfl (by kernel_rfl) rfl (y_fieldAt (off := 2) (m := 2) Tryz.underlying67 rfl sz24 rfl rfl rfl) ?_
    refine wd_y 4 rfl (by kernel_rfl) rfl (y_ldIn (rdR 3 (r := ⟨67, 4, (some ⟨g_1, 0, none⟩), 1, 1, [.slice A_ws ws.length c_ws, .slice A1 n1 c1, .slice A2 n2 c2, .slice A3 n3 c3], false⟩) rfl) Tryz.underlying24 rfl rfl rfl) ?_
    refine wd_y 5 rfl (by kernel_rfl) rfl (y_move rfl) ?_
    refine wd_y 6 rfl (by kernel_rfl) rfl (y_nilCheck rfl) ?_
    refine wd_y 7 rfl (by kernel_rfl) rfl (y_fieldAt (off := 1) (m := 1) Tryz.underlying67 rfl sz43 rfl rfl rfl) ?_
    refine wd_y 8 rfl (by kernel_rfl) rfl (y_ldIn (rdR 3 (r := ⟨67, 4, (some ⟨g_1, 0, none⟩), 1, 1, [.slice A_ws ws.length c_ws, .slice A1 n1 c1, .slice A2 n2 c2, .slice A3 n3 c3], false⟩) rfl) Tryz.underlying43 rfl rfl rfl) ?_
    refine wd_y 9 rfl (by kernel_rfl) rfl (y_len Tryz.underlying43 rfl) ?_
    refine wd_a 10 rfl (by kernel_rfl) rfl (a_litI .i64 [((n1 : Nat) : Int)] Tryz.underlying24 zs3 rfl rfl rfl) ?_
    rintro _ _ ⟨g_8, rfl, rfl⟩
    refine ⟨.inr fun _ h => h.right (R' := [_]), ?_⟩
    refine wd_a 11 rfl (by kernel_rfl) rfl (a_appendI 2 rfl Tryz.underlying24 zb3 rfl rfl rfl (rdr 0 rfl) (by omega)) ?_
    rintro _ _ ⟨A_9, c_10, rfl, rfl⟩
    refine ⟨.inl (by kernel_rfl), ?_⟩
    refine wd_rows (R1 := [⟨3, 1, (some ⟨g_8, 0, none⟩), 1, 1, ints .i64 ([((n1 : Nat) : Int)]), false⟩, ⟨45, 2, A1, n1, c1, prs T, false⟩, ⟨3, 1, A_9, (n2 + 1), c_10, ints .i64 (Bs ++ ([((n1 : Nat) : Int)])), false⟩, ⟨3, 1, A3, n3, c3, ints .i64 Rs, false⟩, ⟨67, 4, (some ⟨g_1, 0, none⟩), 1, 1, [.slice A_ws ws.length c_ws, .slice A1 n1 c1, .slice A2 n2 c2, .slice A3 n3 c3], false⟩]) rfl ?_
    refine wd_as (v := .slice A_9 (n2 + 1) c_10) rfl ?_
    refine wd_y 12 rfl (by kernel_rfl) rfl (y_nilCheck rfl) ?_
    refine wd_y 13 rfl (by kernel_rfl) rfl (y_fieldAt (off := 2) (m := 2) Tryz.underlying67 rfl sz24 rfl rfl rfl) ?_
    refine wd_n 14 rfl (by kernel_rfl) (a_storeAt 4 rfl rfl rfl sz24 rfl rfl rfl rfl (Nat.le_of_ble_eq_true rfl)) ?_
    rintro _ _ rfl
    refine ⟨.inl (by kernel_rfl), ?_⟩
    refine wd_rows (R1 := [⟨3, 1, (some ⟨g_8, 0, none⟩), 1, 1, ints .i64 ([((n1 : Nat) : Int)]), false⟩, ⟨45, 2, A1, n1, c1, prs T, false⟩, ⟨3, 1, A_9, (n2 + 1), c_10, ints .i64 (Bs ++ ([((n1 : Nat) : Int)])), false⟩, ⟨3, 1, A3, n3, c3, ints .i64 Rs, false⟩, ⟨67, 4, (some ⟨g_1, 0, none⟩), 1, 1, [.slice A_ws ws.length c_ws, .slice A1 n1 c1, .slice A_9 (n2 + 1) c_10, .slice A3 n3 c3], false⟩]) rfl ?_
    refine wd_nil (by kernel_rfl) ?_
    refine w_seq ?_
    refine w_reg ?_
    refine wr_y rfl (y_move rfl) ?_
    refine wr_y rfl (y_move rfl) ?_
    refine wr_y rfl (y_len Tryz.underlying23 rfl) ?_
    refine wr_y rfl (y_max rfl rfl) ?_
    refine wr_y rfl (y_assign rfl) ?_
    refine wr_nil ?_
    refine w_seq ?_
    refine w_reg ?_
    refine wr_y rfl (y_move rfl) ?_
    refine wr_y rfl (y_len Tryz.underlying23 rfl) ?_
    refine wr_y rfl (y_move rfl) ?_
    refine wr_nil ?_
    refine w_block ?_
    refine w_loop9 (fun (j : Int) (B1 : Option Addr) (m1 : Nat) (d1 : Nat) (U : List (Int × Int)) (B3 : Option Addr) (m3 : Nat) (d3 : Nat) (V : List Int) => [(3, .pointer (some ⟨g_1, 0, none⟩)), (4, .int .i64 (max lg (((rdl ws k).length : Nat) : Int))), (5, .int .i64 k), (16, .slice A_ws ws.length c_ws), (17, .int .i64 ((ws.length : Nat) : Int)), (18, .int .i64 k), (41, .slice A_2 ((rdl ws k).length) c_3), (42, .int .i64 (((rdl ws k).length : Nat) : Int)), (43, .int .i64 j)]) (fun (j : Int) (B1 : Option Addr) (m1 : Nat) (d1 : Nat) (U : List (Int × Int)) (B3 : Option Addr) (m3 : Nat) (d3 : Nat) (V : List Int) => [⟨3, 1, (some ⟨g_8, 0, none⟩), 1, 1, ints .i64 ([((n1 : Nat) : Int)]), false⟩, ⟨45, 2, B1, m1, d1, prs U, false⟩, ⟨3, 1, A_9, (n2 + 1), c_10, ints .i64 (Bs ++ ([((n1 : Nat) : Int)])), false⟩, ⟨3, 1, B3, m3, d3, ints .i64 V, false⟩, ⟨67, 4, (some ⟨g_1, 0, none⟩), 1, 1, [.slice A_ws ws.length c_ws, .slice B1 m1 d1, .slice A_9 (n2 + 1) c_10, .slice B3 m3 d3], false⟩]) (fun (j : Int) (B1 : Option Addr) (m1 : Nat) (d1 : Nat) (U : List (Int × Int)) (B3 : Option Addr) (m3 : Nat) (d3 : Nat) (V : List Int) => (0 ≤ j) ∧ (j ≤ (rdl ws k).length) ∧ (U = tlist ws k.toNat ++ turnsOf k j.toNat) ∧ (m1 = offs ws k.toNat + j.toNat) ∧ (V = (ws.take k.toNat).flatten ++ (rdl ws k).take j.toNat) ∧ (m3 = offs ws k.toNat + j.toNat)) (fun (j : Int) (B1 : Option Addr) (m1 : Nat) (d1 : Nat) (U : List (Int × Int)) (B3 : Option Addr) (m3 : Nat) (d3 : Nat) (V : List Int) => ((rdl ws k).length - j).toNat) ?_ ?_
    ·
      exact ⟨0, A1, n1, c1, T, A3, n3, c3, Rs, ⟨(by omega), (by omega), (by rw [hT]; exact (List.append_nil _).symm), (hnT), (by rw [hRs]; exact (List.append_nil _).symm), (hnR)⟩, (Sub.cons rfl (Sub.cons rfl (Sub.cons rfl (Sub.cons rfl (Sub.cons rfl (Sub.cons rfl (Sub.cons rfl (Sub.cons rfl (Sub.cons rfl Sub.nil))))))))), fun _ h => h⟩
    intro j B1 m1 d1 U B3 m3 d3 V ⟨hj0, hj1, hU, hm1, hV, hm3⟩
    refine w_seq ?_
    refine w_reg ?_
    refine wr_y rfl (y_lt rfl rfl) ?_
    refine wr_nil ?_
    refine w_seq ?_
    refine w_if rfl (fun hc2 => ?_) (fun hc2 => ?_)
    ·
      refine w_skip ?_
      refine w_seq ?_
      refine w_block ?_
      refine w_seq ?_
      refine w_reg ?_
      refine wr_y rfl (y_move rfl) ?_
      refine wr_y rfl (y_index1 Tryz.underlying23 sz5 rfl rfl (hr_5.c _) (by omega) (by omega)) ?_
      refine wr_y rfl (y_ldI Tryz.underlying5 rfl rfl (hr_5.c _) (by omega) (by omega)) ?_
      refine wr_y rfl (y_assign rfl) ?_
      refine wr_y rfl (y_assign rfl) ?_
      refine wr_nil ?_
      refine w_seq ?_
      refine w_reg ?_
      refine wr_y rfl (y_move rfl) ?_
      refine wr_y rfl (y_move rfl) ?_
      refine wr_y rfl (y_nilCheck rfl) ?_
      refine wr_y rfl (y_fieldAt (off := 1) (m := 1) Tryz.underlying67 rfl sz43 rfl rfl rfl) ?_
      refine wr_y rfl (y_ldIn (rdR 4 (r := ⟨67, 4, (some ⟨g_1, 0, none⟩), 1, 1, [.slice A_ws ws.length c_ws, .slice B1 m1 d1, .slice A_9 (n2 + 1) c_10, .slice B3 m3 d3], false⟩) rfl) Tryz.underlying43 rfl rfl rfl) ?_
      refine wr_y rfl (y_move rfl) ?_
      refine wr_y rfl (y_move rfl) ?_
      refine wr_y rfl (y_build (v := .agg #[.int .i64 k, .int .i64 j]) rfl (fun w => by kernel_rfl)) ?_
      refine wr_a rfl (a_litP Tryz.underlying43 zs45 rfl) ?_
      rintro _ _ ⟨g_12, rfl, rfl⟩
      refine wr_a rfl (a_appendP 2 rfl Tryz.underlying43 zb45 rfl rfl rfl rfl (rdr 0 rfl) (by omega)) ?_
      rintro _ _ ⟨A_13, c_14, rfl, rfl⟩
      refine wr_rows (R1 := [⟨45, 2, (some ⟨g_12, 0, none⟩), 1, 1, prs ([(k, j)]), false⟩, ⟨3, 1, (some ⟨g_8, 0, none⟩), 1, 1, ints .i64 ([((n1 : Nat) : Int)]), false⟩, ⟨45, 2, A_13, (m1 + 1), c_14, prs (U ++ ([(k, j)])), false⟩, ⟨3, 1, A_9, (n2 + 1), c_10, ints .i64 (Bs ++ ([((n1 : Nat) : Int)])), false⟩, ⟨3, 1, B3, m3, d3, ints .i64 V, false⟩, ⟨67, 4, (some ⟨g_1, 0, none⟩), 1, 1, [.slice A_ws ws.length c_ws, .slice B1 m1 d1, .slice A_9 (n2 + 1) c_10, .slice B3 m3 d3], false⟩]) rfl ?_
      refine wr_as (v := .slice A_13 (m1 + 1) c_14) rfl ?_
      refine wr_y rfl (y_nilCheck rfl) ?_
      refine wr_y rfl (y_fieldAt (off := 1) (m := 1) Tryz.underlying67 rfl sz43 rfl rfl rfl) ?_
      refine wr_n (a_storeAt 5 rfl rfl rfl sz43 rfl rfl rfl rfl (Nat.le_of_ble_eq_true rfl)) ?_
      rintro _ _ rfl
      refine wr_rows (R1 := [⟨45, 2, (some ⟨g_12, 0, none⟩), 1, 1, prs ([(k, j)]), false⟩, ⟨3, 1, (some ⟨g_8, 0, none⟩), 1, 1, ints .i64 ([((n1 : Nat) : Int)]), false⟩, ⟨45, 2, A_13, (m1 + 1), c_14, prs (U ++ ([(k, j)])), false⟩, ⟨3, 1, A_9, (n2 + 1), c_10, ints .i64 (Bs ++ ([((n1 : Nat) : Int)])), false⟩, ⟨3, 1, B3, m3, d3, ints .i64 V, false⟩, ⟨67, 4, (some ⟨g_1, 0, none⟩), 1, 1, [.slice A_ws ws.length c_ws, .slice A_13 (m1 + 1) c_14, .slice A_9 (n2 + 1) c_10, .slice B3 m3 d3], false⟩]) rfl ?_
      refine wr_nil ?_
      refine w_reg ?_
      refine wr_y rfl (y_move rfl) ?_
      refine wr_y rfl (y_move rfl) ?_
      refine wr_y rfl (y_nilCheck rfl) ?_
      refine wr_y rfl (y_fieldAt (off := 3) (m := 3) Tryz.underlying67 rfl sz24 rfl rfl rfl) ?_
      refine wr_y rfl (y_ldIn (rdR 5 (r := ⟨67, 4, (some ⟨g_1, 0, none⟩), 1, 1, [.slice A_ws ws.length c_ws, .slice A_13 (m1 + 1) c_14, .slice A_9 (n2 + 1) c_10, .slice B3 m3 d3], false⟩) rfl) Tryz.underlying24 rfl rfl rfl) ?_
      refine wr_y rfl (y_move rfl) ?_
      refine wr_y rfl (y_convI Tryz.underlying5 Tryz.underlying3 rfl (by have hby := (byteL_wf (by assumption : ∀ x ∈ rdl ws k, (Lit.int .u8 x).wf = true)).rd j; omega)) ?_
      refine wr_a rfl (a_litI .i64 [rd (rdl ws k) j] Tryz.underlying24 zs3 rfl rfl rfl) ?_
      rintro _ _ ⟨g_16, rfl, rfl⟩
      refine wr_a rfl (a_appendI 5 rfl Tryz.underlying24 zb3 rfl rfl rfl (rdr 0 rfl) (by omega)) ?_
      rintro _ _ ⟨A_17, c_18, rfl, rfl⟩
      refine wr_rows (R1 := [⟨3, 1, (some ⟨g_16, 0, none⟩), 1, 1, ints .i64 ([rd (rdl ws k) j]), false⟩, ⟨45, 2, (some ⟨g_12, 0, none⟩), 1, 1, prs ([(k, j)]), false⟩, ⟨3, 1, (some ⟨g_8, 0, none⟩), 1, 1, ints .i64 ([((n1 : Nat) : Int)]), false⟩, ⟨45, 2, A_13, (m1 + 1), c_14, prs (U ++ ([(k, j)])), false⟩, ⟨3, 1, A_9, (n2 + 1), c_10, ints .i64 (Bs ++ ([((n1 : Nat) : Int)])), false⟩, ⟨3, 1, A_17, (m3 + 1), c_18, ints .i64 (V ++ ([rd (rdl ws k) j])), false⟩, ⟨67, 4, (some ⟨g_1, 0, none⟩), 1, 1, [.slice A_ws ws.length c_ws, .slice A_13 (m1 + 1) c_14, .slice A_9 (n2 + 1) c_10, .slice B3 m3 d3], false⟩]) rfl ?_
      refine wr_as (v := .slice A_17 (m3 + 1) c_18) rfl ?_
      refine wr_y rfl (y_nilCheck rfl) ?_
      refine wr_y rfl (y_fieldAt (off := 3) (m := 3) Tryz.underlying67 rfl sz24 rfl rfl rfl) ?_
      refine wr_n (a_storeAt 6 rfl rfl rfl sz24 rfl rfl rfl rfl (Nat.le_of_ble_eq_true rfl)) ?_
      rintro _ _ rfl
      refine wr_rows (R1 := [⟨3, 1, (some ⟨g_16, 0, none⟩), 1, 1, ints .i64 ([rd (rdl ws k) j]), false⟩, ⟨45, 2, (some ⟨g_12, 0, none⟩), 1, 1, prs ([(k, j)]), false⟩, ⟨3, 1, (some ⟨g_8, 0, none⟩), 1, 1, ints .i64 ([((n1 : Nat) : Int)]), false⟩, ⟨45, 2, A_13, (m1 + 1), c_14, prs (U ++ ([(k, j)])), false⟩, ⟨3, 1, A_9, (n2 + 1), c_10, ints .i64 (Bs ++ ([((n1 : Nat) : Int)])), false⟩, ⟨3, 1, A_17, (m3 + 1), c_18, ints .i64 (V ++ ([rd (rdl ws k) j])), false⟩, ⟨67, 4, (some ⟨g_1, 0, none⟩), 1, 1, [.slice A_ws ws.length c_ws, .slice A_13 (m1 + 1) c_14, .slice A_9 (n2 + 1) c_10, .slice A_17 (m3 + 1) c_18], false⟩]) rfl ?_
      refine wr_nil ?_
      refine w_reg ?_
      refine wr_y rfl (y_addI rfl rfl (by omega)) ?_
      refine wr_y rfl (y_move rfl) ?_
      refine wr_nil ?_
      exact ⟨j + 1, A_13, (m1 + 1), c_14, U ++ ([(k, j)]), A_17, (m3 + 1), c_18, V ++ ([rd (rdl ws k) j]), ⟨(by omega), (by omega), (by rw [hU, turnsOf_succ k hj0, List.append_assoc]), (by omega), (by rw [hV, List.append_assoc, take_rd hj0 (by omega)]), (by omega)⟩, (by omega), (Sub.cons rfl (Sub.cons rfl (Sub.cons rfl (Sub.cons rfl (Sub.cons rfl (Sub.cons rfl (Sub.cons rfl (Sub.cons rfl (Sub.cons rfl Sub.nil))))))))), fun _ h => h.sel [2, 3, 4, 5, 6] (by decide) rfl⟩
    ·
      refine w_exit ?_
      refine w_reg ?_
      refine wr_y rfl (y_addI rfl rfl (by omega)) ?_
      refine wr_y rfl (y_move rfl) ?_
      refine wr_nil ?_
      exact ⟨k + 1, max lg (((rdl ws k).length : Nat) : Int), B1, m1, d1, U, A_9, (n2 + 1), c_10, Bs ++ ([((n1 : Nat) : Int)]), B3, m3, d3, V, ⟨(by omega), (by omega), (by omega), (fun w h0 h1 => by
            by_cases hw : w = k
            · rw [hw]; omega
            · have := hlg w h0 (by omega); omega), (by have hofs := offs_succ hk0 (show k < ws.length by omega); omega), (by have hj : j.toNat = (rdl ws k).length := (by omega); rw [hU, hj, tlist_succ hk0]), (by rw [hm1, offs_succ hk0 (by omega)]; omega), (by rw [hBs, blist_succ hk0, hnT]), (by omega), (by have hj : j.toNat = (rdl ws k).length := (by omega); rw [hV, hj, List.take_length, flat_take_succ hk0 (by omega)]), (by rw [hm3, offs_succ hk0 (by omega)]; omega)⟩, (by omega), (Sub.cons rfl (Sub.cons rfl (Sub.cons rfl (Sub.cons rfl (Sub.cons rfl Sub.nil))))), fun _ h => h.sel [1, 2, 3, 4] (by decide) rfl⟩
  ·
    have hke : k = ws.length := by omega
    have hkn : k.toNat = ws.length := by omega
    rw [hkn] at hT hBs hRs hnT hnB hnR hge
    rw [List.take_length] at hRs
    have hoT := tlist_len ws ws.length (Nat.le_refl _)
    have hoB := blist_len ws ws.length
    have hoR : offs ws ws.length = ws.flatten.length := by unfold offs; rw [List.take_length]
    obtain rfl : n1 = T.length := by rw [hT]; omega
    obtain rfl : n2 = Bs.length := by rw [hBs]; omega
    obtain rfl : n3 = Rs.length := by rw [hRs]; omega
    have hTl : T.length ≤ 1000000 := by rw [hT]; omega
    refine w_exit ?_
    refine w_seq ?_
    refine w_reg ?_
    refine wr_y rfl (y_move rfl) ?_
    refine wr_y rfl (y_nilCheck rfl) ?_
    refine wr_y rfl (y_fieldAt (off := 1) (m := 1) Tryz.underlying67 rfl sz43 rfl rfl rfl) ?_
    refine wr_y rfl (y_ldIn (rdR 3 (r := ⟨67, 4, (some ⟨g_1, 0, none⟩), 1, 1, [.slice A_ws ws.length c_ws, .slice A1 T.length c1, .slice A2 Bs.length c2, .slice A3 Rs.length c3], false⟩) rfl) Tryz.underlying43 rfl rfl rfl) ?_
    refine wr_a rfl (a_callF en34 rfl (Ct.fresh (fun w hw => cloneP_ct ((rdr 0 rfl) w hw) hTl))) ?_
    rintro _ _ ⟨_, rfl, A_19, c_20, rfl, rfl⟩
    refine wr_y rfl (y_assign rfl) ?_
    refine wr_nil ?_
    refine w_seq ?_
    refine w_reg ?_
    refine wr_y rfl (y_assign rfl) ?_
    refine wr_nil ?_
    refine w_seq ?_
    refine w_seq ?_
    refine w_reg ?_
    refine wr_y rfl (y_assign rfl) ?_
    refine wr_nil ?_
    refine w_block ?_
    refine w_loop6 (fun (h : Int) (was : Int) (l : List (Int × Int)) (A4 : Option Addr) (c4 : Nat) (rs : List Int) => [(3, .pointer (some ⟨g_1, 0, none⟩)), (4, .int .i64 lg), (9, .slice A_19 T.length c_20), (10, .int .i64 was), (11, .int .i64 h)]) (fun (h : Int) (was : Int) (l : List (Int × Int)) (A4 : Option Addr) (c4 : Nat) (rs : List Int) => [⟨45, 2, A_19, T.length, c_20, prs l, false⟩, ⟨45, 2, A1, T.length, c1, prs T, false⟩, ⟨3, 1, A2, Bs.length, c2, ints .i64 Bs, false⟩, ⟨3, 1, A4, Rs.length, c4, ints .i64 rs, false⟩, ⟨67, 4, (some ⟨g_1, 0, none⟩), 1, 1, [.slice A_ws ws.length c_ws, .slice A1 T.length c1, .slice A2 Bs.length c2, .slice A4 Rs.length c4], false⟩]) (fun (h : Int) (was : Int) (l : List (Int × Int)) (A4 : Option Addr) (c4 : Nat) (rs : List Int) => (0 ≤ h) ∧ (l.Perm T) ∧ (rs.length = Rs.length) ∧ (RK ws Bs (curH h) rs) ∧ (0 < h → Sorted ws (curH h) l ∧ Go.Pure.Steps Bs rs l was)) (fun (h : Int) (was : Int) (l : List (Int × Int)) (A4 : Option Addr) (c4 : Nat) (rs : List Int) => (2 * lg - h).toNat) ?_ ?_
    ·
      exact ⟨0, -1, T, A3, c3, Rs, ⟨(by omega), (.refl _), (rfl), (by rw [hRs, hBs]; exact rk_first ws), (fun h => absurd h (by omega))⟩, (Sub.cons rfl (Sub.cons rfl (Sub.cons rfl (Sub.cons rfl (Sub.cons rfl Sub.nil))))), fun _ h => h⟩
    intro h was l A4 c4 rs ⟨hh0, hlp, hrl, hRK, hst⟩
    have htv : ∀ t ∈ l, TV ws t := fun t ht => mem_all.1 (by rw [← hT]; exact hlp.mem_iff.1 ht)
    have hvv : ∀ t ∈ l, TOk ws Bs rs.length t := fun t ht => by rw [hrl, hRs, hBs]; exact all_tok (by omega) (htv t ht)
    have hij : ∀ t ∈ l, ∀ u ∈ l, posT Bs t = posT Bs u → t = u := fun t ht u hu e => posT_inj (htv t ht) (htv u hu) (by rw [← hBs]; exact e)
    have hnd : l.Nodup := hlp.nodup_iff.2 (by rw [hT]; exact tlist_nodup ws _)
    have hrs : Rs.length = ws.flatten.length := by rw [hRs]
    have hll := hlp.length_eq
    have hTo : T.length = offs ws ws.length := by rw [hT]; exact hoT
    refine w_seq ?_
    refine w_seq ?_
    refine w_reg ?_
    refine wr_y rfl (y_move rfl) ?_
    refine wr_y rfl (y_move rfl) ?_
    refine wr_y rfl (y_mulI rfl rfl (by omega)) ?_
    refine wr_y rfl (y_lt rfl rfl) ?_
    refine wr_nil ?_
    refine w_if rfl (fun hc3 => ?_) (fun hc3 => ?_)
    ·
      have hne : l ≠ [] := fun e => by rw [e] at hll; simp only [List.length_nil] at hll; omega
      refine w_skip ?_
      refine w_seq ?_
      refine w_block ?_
      refine w_seq ?_
      refine w_reg ?_
      refine wr_y rfl (y_move rfl) ?_
      refine wr_y rfl (y_move rfl) ?_
      refine wr_y rfl (y_move rfl) ?_
      refine wr_sub (R1 := [⟨67, 4, (some ⟨g_1, 0, none⟩), 1, 1, [.slice A_ws ws.length c_ws, .slice A1 T.length c1, .slice A2 Bs.length c2, .slice A4 Rs.length c4], false⟩, ⟨45, 2, A_19, T.length, c_20, prs l, false⟩, ⟨3, 1, A2, Bs.length, c2, ints .i64 Bs, false⟩, ⟨3, 1, A4, Rs.length, c4, ints .i64 rs, false⟩, ⟨45, 2, A1, T.length, c1, prs T, false⟩]) (Sub.refl _) (fun _ h => h.sel [4, 0, 2, 3, 1] (by decide) rfl) ?_
      refine wr_a rfl (a_callF en35 rfl (doubles_ct (bs := Bs) (rs := rs) (ts := l) hll.symm rfl hrl.symm (h_ws.c _) (fun w hw => s_ws.c hw) hvv hij hnd hne ⟨by omega, by omega⟩ ⟨hh0, by omega⟩)) ?_
      rintro _ _ ⟨l_23, rk_24, A_21, c_22, rfl, hp_l_23, hs_l_23, hl_rk_24, hr_rk_24, rfl⟩
      have hs2 : Sorted ws (nextH h) l_23 := ⟨fun t ht => htv t (hp_l_23.mem_iff.1 ht), hp_l_23.nodup_iff.2 hnd, hs_l_23.imp_of_mem fun {x y} hx hy hn ho => hn ((tcmp_ord hh0 hRK (htv y (hp_l_23.mem_iff.1 hy)) (htv x (hp_l_23.mem_iff.1 hx))).2 ho)⟩
      have hall2 : ∀ t, TV ws t → t ∈ l_23 := fun t ht => hp_l_23.mem_iff.2 (hlp.mem_iff.2 (by rw [hT]; exact mem_all.2 ht))
      have hRK2 := rk_next hh0 hRK hs2 hall2 hr_rk_24
      have hst2 := steps_next hh0 hRK hs2 hr_rk_24
      have hcl := hp_l_23.length_eq
      refine wr_rows (R1 := [⟨67, 4, (some ⟨g_1, 0, none⟩), 1, 1, [.slice A_ws ws.length c_ws, .slice A1 T.length c1, .slice A2 Bs.length c2, .slice A_21 Rs.length c_22], false⟩, ⟨45, 2, A_19, T.length, c_20, prs l_23, false⟩, ⟨3, 1, A2, Bs.length, c2, ints .i64 Bs, false⟩, ⟨3, 1, A_21, Rs.length, c_22, ints .i64 rk_24, false⟩, ⟨45, 2, A1, T.length, c1, prs T, false⟩]) rfl ?_
      refine wr_y rfl (y_assign rfl) ?_
      refine wr_nil ?_
      refine w_seq ?_
      refine w_seq ?_
      refine w_reg ?_
      refine wr_y rfl (y_move rfl) ?_
      refine wr_y rfl (y_move rfl) ?_
      refine wr_y rfl (y_eq rfl rfl) ?_
      refine wr_y rfl (y_move rfl) ?_
      refine wr_mid 3 [(3, .pointer (some ⟨g_1, 0, none⟩)), (4, .int .i64 lg), (9, .slice A_19 T.length c_20), (11, .int .i64 h), (12, .int .i64 (clsF ws Bs rs h l_23 (l_23.length - 1))), (95, .bool (decide (((clsF ws Bs rs h l_23 (l_23.length - 1)) = was) ∧ (0 < h))))] [⟨67, 4, (some ⟨g_1, 0, none⟩), 1, 1, [.slice A_ws ws.length c_ws, .slice A1 T.length c1, .slice A2 Bs.length c2, .slice A_21 Rs.length c_22], false⟩, ⟨45, 2, A_19, T.length, c_20, prs l_23, false⟩, ⟨3, 1, A2, Bs.length, c2, ints .i64 Bs, false⟩, ⟨3, 1, A_21, Rs.length, c_22, ints .i64 rk_24, false⟩, ⟨45, 2, A1, T.length, c1, prs T, false⟩] ?_ ?_
      ·
        refine wr_case 92 rfl (fun hc4 => ?_) (fun hc4 => ?_)
        ·
          refine wr_yes rfl rfl ?_
          refine wr_y rfl (y_move rfl) ?_
          refine wr_yes rfl rfl ?_
          refine wr_y rfl (y_gt rfl rfl) ?_
          refine wr_y rfl (y_pickT rfl rfl) ?_
          refine wr_nil ?_
          exact ⟨(Sub.cons rfl (Sub.cons rfl (Sub.cons rfl (Sub.cons rfl (Sub.cons rfl (Sub.to rfl (mb (by first | omega | exact ⟨fun h => ⟨(by assumption), h⟩, fun h => h.2⟩ | exact .inl (by assumption) | exact ⟨.inr, fun h => h.resolve_left (by assumption)⟩ | exact ⟨fun h => h.resolve_left (by assumption), .inr⟩ | simp [*])) Sub.nil)))))), fun _ h => h⟩
        ·
          refine wr_no rfl rfl rfl rfl ?_
          refine wr_no rfl rfl rfl rfl ?_
          refine wr_y rfl (y_pickF rfl rfl) ?_
          refine wr_nil ?_
          exact ⟨(Sub.cons rfl (Sub.cons rfl (Sub.cons rfl (Sub.cons rfl (Sub.cons rfl (Sub.to rfl (mb_f (by first | omega | exact ⟨fun h => ⟨(by assumption), h⟩, fun h => h.2⟩ | exact .inl (by assumption) | exact ⟨.inr, fun h => h.resolve_left (by assumption)⟩ | exact ⟨fun h => h.resolve_left (by assumption), .inr⟩ | simp [*])) Sub.nil)))))), fun _ h => h⟩
      refine wr_nil ?_
      refine w_if rfl (fun hc5 => ?_) (fun hc5 => ?_)
      ·
        refine w_exit ?_
        refine w_seq ?_
        refine w_reg ?_
        refine wr_y rfl (y_move rfl) ?_
        refine wr_y rfl (y_assign rfl) ?_
        refine wr_nil ?_
        refine w_retR (R1 := [⟨45, 2, A_19, T.length, c_20, prs l_23, false⟩]) (fun _ h => h.sel [1] (by decide) rfl) ?_
        refine ⟨_, rfl, ?_⟩
        have hle : T.length = l_23.length := by omega
        rw [hle]
        refine ⟨l_23, _, _, rfl, ?_, ?_, rfl⟩
        · rw [← hT]; exact hp_l_23.trans hlp
        · exact stay hc5.2 hRK hs2 hall2 hp_l_23 (hst hc5.2).2 hc5.1
      ·
        refine w_skip ?_
        refine w_reg ?_
        refine wr_y rfl (y_move rfl) ?_
        refine wr_y rfl (y_assign rfl) ?_
        refine wr_nil ?_
        refine w_reg ?_
        refine wr_y rfl (y_move rfl) ?_
        refine wr_y rfl (y_mulI rfl rfl (by omega)) ?_
        refine wr_y rfl (y_max rfl rfl) ?_
        refine wr_y rfl (y_assign rfl) ?_
        refine wr_nil ?_
        exact ⟨max 1 (2 * h), clsF ws Bs rs h l_23 (l_23.length - 1), l_23, A_21, c_22, rk_24, ⟨(by omega), (hp_l_23.trans hlp), (by omega), (by have e : curH (max 1 (2 * h)) = nextH h := (by unfold curH nextH; split <;> omega); rw [e]; exact hRK2), (fun _ => by have e : curH (max 1 (2 * h)) = nextH h := (by unfold curH nextH; split <;> omega); rw [e]; exact ⟨hs2, hst2⟩)⟩, (by omega), (Sub.cons rfl (Sub.cons rfl (Sub.cons rfl (Sub.cons rfl (Sub.cons rfl Sub.nil))))), fun _ h => h.sel [1, 4, 2, 3, 0] (by decide) rfl⟩
    ·
      refine w_exit ?_
      refine w_seq ?_
      refine w_reg ?_
      refine wr_y rfl (y_move rfl) ?_
      refine wr_y rfl (y_assign rfl) ?_
      refine wr_nil ?_
      refine w_retR (R1 := [⟨45, 2, A_19, T.length, c_20, prs l, false⟩]) (fun _ h => h.sel [0] (by decide) rfl) ?_
      refine ⟨_, rfl, ?_⟩
      have hle : T.length = l.length := by omega
      rw [hle]
      refine ⟨l, _, _, rfl, ?_, ?_, rfl⟩
      · rw [← hT]; exact hlp
      · by_cases h0 : 0 < h
        · refine (hst h0).1.toO fun t u ht hu e => eq_all_long ht hu ?_ e
          have a := hlg t.1 ht.1 (by rw [hke]; exact ht.2.1)
          have b := hlg u.1 hu.1 (by rw [hke]; exact hu.2.1)
          unfold curH
          omega
        · have hl0 : l = [] := List.eq_nil_of_length_eq_zero (by omega)
          rw [hl0]
          exact .nil

end Go.Proofs.YtdfcnalkdlifiaaGreat

/-! ## F9 -/
namespace Go.Proofs.YtdfcnalkdlifiaaGreat
open Go Go.Eng Go.Pure
set_option linter.unusedVariables false
theorem flat_ge {ws : List (List Int)} {k : Int} (h0 : 0 ≤ k) (h : k < ws.length) : (rdl ws k).length ≤ ws.flatten.length := by
  have a := offs_succ h0 h
  have b := offs_le ws (k + 1).toNat
  omega
theorem turn_le (u : List Int) (i : Nat) : (u.drop i ++ u.take i).length ≤ u.length := by
  rw [List.length_append, List.length_drop, List.length_take]
  omega
set_option maxRecDepth 100000 in
set_option maxHeartbeats 400000 in
theorem turns8_ct {w : World} {A_ws : Option Addr} {n_ws c_ws : Nat} {vals_ws : List Value} {ws : List (List Int)} (h_ws : Rd w A_ws n_ws c_ws 1 vals_ws) (s_ws : SlW .u8 w vals_ws ws) (hN : ws.flatten.length ≤ 400000 ∧ ws.length ≤ 1000000) :
    Ct Tryz.prog 53 #[.slice A_ws n_ws c_ws] w.heap.size w [] (fun v R' => ∃ (l : List (Int × Int)) (A : Option Addr) (c : Nat), v = .slice A l.length c ∧ l.Perm (tlist ws ws.length) ∧ l.Pairwise (ordO ws) ∧ R' = [⟨45, 2, A, l.length, c, prs l, false⟩]) := by
  obtain rfl : n_ws = ws.length := by have := h_ws.len; have := s_ws.1; omega
  refine fn1 Tryz.func53 rfl rfl rfl ?_
  have m_ws := h_ws.max
  refine w_seq ?_
  refine w_reg ?_
  refine wr_y rfl (y_assign rfl) ?_
  refine wr_nil ?_
  refine w_seq ?_
  refine w_reg ?_
  refine wr_sub (R1 := [⟨45, 2, none, 0, 0, prs ([]), false⟩]) (Sub.refl _) (fun _ h => h.nilP 45) ?_
  refine wr_y rfl (y_assign rfl) ?_
  refine wr_nil ?_
  refine w_seq ?_
  refine w_seq ?_
  refine w_reg ?_
  refine wr_y rfl (y_assign rfl) ?_
  refine wr_nil ?_
  refine w_block ?_
  refine w_loop5 (fun (q : Int) (A1 : Option Addr) (n1 : Nat) (c1 : Nat) (T : List (Int × Int)) => [(0, .slice A_ws ws.length c_ws), (3, .slice A1 n1 c1), (4, .int .i64 q)]) (fun (q : Int) (A1 : Option Addr) (n1 : Nat) (c1 : Nat) (T : List (Int × Int)) => [⟨45, 2, A1, n1, c1, prs T, false⟩]) (fun (q : Int) (A1 : Option Addr) (n1 : Nat) (c1 : Nat) (T : List (Int × Int)) => (0 ≤ q) ∧ (q ≤ ws.length) ∧ (n1 = T.length) ∧ (T.Perm (tlist ws q.toNat)) ∧ (T.Pairwise (ordO ws))) (fun (q : Int) (A1 : Option Addr) (n1 : Nat) (c1 : Nat) (T : List (Int × Int)) => (ws.length - q).toNat) ?_ ?_
  ·
    exact ⟨0, none, 0, 0, [], ⟨(by omega), (by omega), (rfl), (.refl _), (.nil)⟩, (Sub.cons rfl (Sub.cons rfl (Sub.cons rfl Sub.nil))), fun _ h => h⟩
  intro q A1 n1 c1 T ⟨hw0, hw1, hn1, hp, hs⟩
  refine w_seq ?_
  refine w_seq ?_
  refine w_reg ?_
  refine wr_y rfl (y_move rfl) ?_
  refine wr_y rfl (y_move rfl) ?_
  refine wr_y rfl (y_len Tryz.underlying22 rfl) ?_
  refine wr_y rfl (y_lt rfl rfl) ?_
  refine wr_nil ?_
  refine w_if rfl (fun hc1 => ?_) (fun hc1 => ?_)
  ·
    refine w_skip ?_
    refine w_seq ?_
    refine w_block ?_
    refine w_seq ?_
    refine w_reg ?_
    refine wr_y rfl (y_assign rfl) ?_
    refine wr_nil ?_
    refine w_block ?_
    refine w_loop5 (fun (k : Int) (B1 : Option Addr) (m1 : Nat) (d1 : Nat) (U : List (Int × Int)) => [(0, .slice A_ws ws.length c_ws), (3, .slice B1 m1 d1), (4, .int .i64 q), (5, .int .i64 k)]) (fun (k : Int) (B1 : Option Addr) (m1 : Nat) (d1 : Nat) (U : List (Int × Int)) => [⟨45, 2, B1, m1, d1, prs U, false⟩]) (fun (k : Int) (B1 : Option Addr) (m1 : Nat) (d1 : Nat) (U : List (Int × Int)) => (0 ≤ k) ∧ (k ≤ (rdl ws q).length) ∧ (m1 = U.length) ∧ (U.Perm (tlist ws q.toNat ++ turnsOf q k.toNat)) ∧ (U.Pairwise (ordO ws))) (fun (k : Int) (B1 : Option Addr) (m1 : Nat) (d1 : Nat) (U : List (Int × Int)) => ((rdl ws q).length - k).toNat) ?_ ?_
    ·
      exact ⟨0, A1, n1, c1, T, ⟨(by omega), (by omega), (hn1), (by rw [show turnsOf q (0 : Int).toNat = [] from rfl, List.append_nil]; exact hp), (hs)⟩, (Sub.cons rfl (Sub.cons rfl (Sub.cons rfl (Sub.cons rfl Sub.nil)))), fun _ h => h⟩
    intro k B1 m1 d1 U ⟨hk0, hk1, hm1, hp1, hs1⟩
    refine w_seq ?_
    refine w_seq ?_
    refine w_reg ?_
    refine wr_y rfl (y_move rfl) ?_
    refine wr_y rfl (y_move rfl) ?_
    refine wr_y rfl (y_move rfl) ?_
    refine wr_y rfl (y_index1 Tryz.underlying22 sz23 rfl rfl (h_ws.c _) (by omega) (by omega)) ?_
    refine s_ws.elim (i := q) (by omega) (by omega) (fun A_1 c_2 hv_3 hr_4 hb_5 mhr_4 => ?_)
    refine wr_y rfl (y_ld Tryz.underlying23 rfl rfl rfl (h_ws.c _) hv_3) ?_
    refine wr_y rfl (y_len Tryz.underlying23 rfl) ?_
    refine wr_y rfl (y_lt rfl rfl) ?_
    refine wr_nil ?_
    refine w_if rfl (fun hc2 => ?_) (fun hc2 => ?_)
    ·
      refine w_skip ?_
      refine w_seq ?_
      refine w_block ?_
      refine w_seq ?_
      refine w_reg ?_
      refine wr_y rfl (y_move rfl) ?_
      refine wr_y rfl (y_move rfl) ?_
      refine wr_y rfl (y_index1 Tryz.underlying22 sz23 rfl rfl (h_ws.c _) (by omega) (by omega)) ?_
      refine s_ws.elim (i := q) (by omega) (by omega) (fun A_6 c_7 hv_8 hr_9 hb_10 mhr_9 => ?_)
      refine wr_y rfl (y_ld Tryz.underlying23 rfl rfl rfl (h_ws.c _) hv_8) ?_
      refine wr_y rfl (y_move rfl) ?_
      refine wr_a rfl (a_callF en44 rfl (Ct.fresh (fun w hw => turn4_ct ((hr_9.c _) w hw) (by omega) (by have := flat_ge (ws := ws) (k := q) hw0 (by omega); omega)))) ?_
      rintro _ _ ⟨_, rfl, A_11, c_12, rfl, rfl⟩
      refine wr_y rfl (y_assign rfl) ?_
      refine wr_nil ?_
      refine w_seq ?_
      refine w_reg ?_
      refine wr_y rfl (y_move rfl) ?_
      refine wr_y rfl (y_len Tryz.underlying43 rfl) ?_
      refine wr_y rfl (y_assign rfl) ?_
      refine wr_nil ?_
      refine w_seq ?_
      refine w_block ?_
      refine w_loop1 (fun (j : Int) => [(0, .slice A_ws ws.length c_ws), (3, .slice B1 m1 d1), (4, .int .i64 q), (5, .int .i64 k), (6, .slice A_11 (((rdl ws q).drop (k).toNat ++ (rdl ws q).take (k).toNat).length) c_12), (7, .int .i64 j)]) (fun (j : Int) => [⟨5, 1, A_11, ((rdl ws q).drop (k).toNat ++ (rdl ws q).take (k).toNat).length, c_12, ints .u8 ((rdl ws q).drop (k).toNat ++ (rdl ws q).take (k).toNat), false⟩, ⟨45, 2, B1, m1, d1, prs U, false⟩]) (fun (j : Int) => (0 ≤ j) ∧ (j ≤ U.length) ∧ (∀ i : Int, j ≤ i → i < U.length → ordO ws (q, k) (rdp U i))) (fun (j : Int) => j.toNat) ?_ ?_
      ·
        exact ⟨((m1 : Nat) : Int), ⟨(by omega), (by omega), (fun i h1 h2 => by omega)⟩, (Sub.cons rfl (Sub.cons rfl (Sub.cons rfl (Sub.cons rfl (Sub.cons rfl (Sub.cons rfl Sub.nil)))))), fun _ h => h⟩
      intro j ⟨hj0, hj1, hgt⟩
      have hUl : U.length ≤ 400000 := by rw [hp1.length_eq, List.length_append, tlist_len ws _ (by omega), turnsOf_len]; have a := offs_succ hw0 (show q < ws.length by omega); have b := offs_le ws (q + 1).toNat; omega
      have hmem := rdp_part (ws := ws) hw0 (by omega) (by omega) hp1
      have hmx : ∀ i : Int, 0 ≤ i → i < U.length → (rdl ws (rdp U i).1).length ≤ 1000000 := fun i h1 h2 => by have := flat_ge (ws := ws) (hmem i h1 h2).1.1 (hmem i h1 h2).1.2.1; omega
      refine w_seq ?_
      refine w_join0 [(0, .slice A_ws ws.length c_ws), (3, .slice B1 m1 d1), (4, .int .i64 q), (5, .int .i64 k), (6, .slice A_11 (((rdl ws q).drop (k).toNat ++ (rdl ws q).take (k).toNat).length) c_12), (7, .int .i64 j), (53, .bool (decide ((0 < j) ∧ ((cmpO ((rdl ws q).drop (k).toNat ++ (rdl ws q).take (k).toNat) ((rdl ws ((rdp U (j - 1)).1)).drop (((rdp U (j - 1)).2)).toNat ++ (rdl ws ((rdp U (j - 1)).1)).take (((rdp U (j - 1)).2)).toNat)) < 0))))] [⟨5, 1, A_11, ((rdl ws q).drop (k).toNat ++ (rdl ws q).take (k).toNat).length, c_12, ints .u8 ((rdl ws q).drop (k).toNat ++ (rdl ws q).take (k).toNat), false⟩, ⟨45, 2, B1, m1, d1, prs U, false⟩] ?_ ?_
      ·
        refine w_regd mixed ?_
        refine wd_y 0 rfl (by kernel_rfl) rfl (y_move rfl) ?_
        refine wd_y 1 rfl (by kernel_rfl) rfl (y_gt rfl rfl) ?_
        refine wd_y 2 rfl (by kernel_rfl) rfl (y_move rfl) ?_
        refine wd_case 33 rfl (fun hc3 => ?_) (fun hc3 => ?_)
        ·
          refine wd_yg 3 rfl (by kernel_rfl) rfl rfl rfl (y_move rfl) ?_
          refine wd_yg 4 rfl (by kernel_rfl) rfl rfl rfl (y_move rfl) ?_
          refine wd_yg 5 rfl (by kernel_rfl) rfl rfl rfl (y_move rfl) ?_
          refine wd_yg 6 rfl (by kernel_rfl) rfl rfl rfl (y_move rfl) ?_
          refine wd_yg 7 rfl (by kernel_rfl) rfl rfl rfl (y_subI rfl rfl (by omega)) ?_
          refine wd_yg 8 rfl (by kernel_rfl) rfl rfl rfl (y_index Tryz.underlying43 sz45 rfl rfl (rdr 1 rfl) rfl (by omega) (by omega)) ?_
          refine wd_yg 9 rfl (by kernel_rfl) rfl rfl rfl (y_pairAt (q := 0) Tryz.underlying45 sz3 rfl rfl (rdr 1 rfl) (by omega) (by omega) rfl (by decide) (by decide)) ?_
          refine wd_yg 10 rfl (by kernel_rfl) rfl rfl rfl (y_ldP1 Tryz.underlying3 rfl rfl (rdr 1 rfl) (by omega) (by omega)) ?_
          refine wd_yg 11 rfl (by kernel_rfl) rfl rfl rfl (y_index1 Tryz.underlying22 sz23 rfl rfl (h_ws.c _) (by first | exact (hmem (j - 1) (by omega) (by omega)).1.1 | exact (hmem (j - 1) (by omega) (by omega)).1.2.1) (by first | exact (hmem (j - 1) (by omega) (by omega)).1.1 | exact (hmem (j - 1) (by omega) (by omega)).1.2.1)) ?_
          refine s_ws.elim (i := (rdp U (j - 1)).1) (by first | exact (hmem (j - 1) (by omega) (by omega)).1.1 | exact (hmem (j - 1) (by omega) (by omega)).1.2.1) (by first | exact (hmem (j - 1) (by omega) (by omega)).1.1 | exact (hmem (j - 1) (by omega) (by omega)).1.2.1) (fun A_14 c_15 hv_16 hr_17 hb_18 mhr_17 => ?_)
          refine wd_yg 12 rfl (by kernel_rfl) rfl rfl rfl (y_ld Tryz.underlying23 rfl rfl rfl (h_ws.c _) hv_16) ?_
          refine wd_yg 13 rfl (by kernel_rfl) rfl rfl rfl (y_move rfl) ?_
          refine wd_yg 14 rfl (by kernel_rfl) rfl rfl rfl (y_move rfl) ?_
          refine wd_yg 15 rfl (by kernel_rfl) rfl rfl rfl (y_subI rfl rfl (by omega)) ?_
          refine wd_yg 16 rfl (by kernel_rfl) rfl rfl rfl (y_index Tryz.underlying43 sz45 rfl rfl (rdr 1 rfl) rfl (by omega) (by omega)) ?_
          refine wd_yg 17 rfl (by kernel_rfl) rfl rfl rfl (y_pairAt (q := 1) Tryz.underlying45 sz3 rfl rfl (rdr 1 rfl) (by omega) (by omega) rfl (by decide) (by decide)) ?_
          refine wd_yg 18 rfl (by kernel_rfl) rfl rfl rfl (y_ldP2 Tryz.underlying3 rfl rfl (rdr 1 rfl) (by omega) (by omega)) ?_
          refine wd_ag 19 rfl (by kernel_rfl) rfl rfl rfl (a_callF en44 rfl (Ct.fresh (fun w hw => turn4_ct ((hr_17.c _) w hw) ⟨(hmem (j - 1) (by omega) (by omega)).1.2.2.1, Int.le_of_lt (hmem (j - 1) (by omega) (by omega)).1.2.2.2⟩ (hmx (j - 1) (by omega) (by omega))))) ?_
          rintro _ _ ⟨_, rfl, A_19, c_20, rfl, rfl⟩
          refine ⟨.inr fun _ h => h.right (R' := [_]), ?_⟩
          refine wd_ag 20 rfl (by kernel_rfl) rfl rfl rfl (a_callF en85 rfl (Ct.quiet (fun w hw => compareR8_ct ((rdr 1 rfl) w hw) ((rdr 0 rfl) w hw) (Nat.le_trans (turn_le _ _) (Nat.le_trans (flat_ge (ws := ws) (k := q) hw0 (by omega)) (by omega))) (Nat.le_trans (turn_le _ _) (hmx (j - 1) (by omega) (by omega)))))) ?_
          rintro _ _ ⟨rfl, rfl⟩
          refine ⟨.inr fun _ h => h, ?_⟩
          refine wd_yg 21 rfl (by kernel_rfl) rfl rfl rfl (y_lt rfl rfl) ?_
          refine wd_y 22 rfl (by kernel_rfl) rfl (y_pickT rfl rfl) ?_
          refine wd_nil (by kernel_rfl) ?_
          exact ⟨(Sub.cons rfl (Sub.cons rfl (Sub.cons rfl (Sub.cons rfl (Sub.cons rfl (Sub.cons rfl (Sub.to rfl (mb (by first | omega | exact ⟨fun h => ⟨(by assumption), h⟩, fun h => h.2⟩ | exact .inl (by assumption) | exact ⟨.inr, fun h => h.resolve_left (by assumption)⟩ | exact ⟨fun h => h.resolve_left (by assumption), .inr⟩ | simp [*])) Sub.nil))))))), fun _ h => h.sel [1, 2] (by decide) rfl⟩
        ·
          refine wd_no 3 rfl (by kernel_rfl) rfl rfl rfl rfl ?_
          refine wd_no 4 rfl (by kernel_rfl) rfl rfl rfl rfl ?_
          refine wd_no 5 rfl (by kernel_rfl) rfl rfl rfl rfl ?_
          refine wd_no 6 rfl (by kernel_rfl) rfl rfl rfl rfl ?_
          refine wd_no 7 rfl (by kernel_rfl) rfl rfl rfl rfl ?_
          refine wd_no 8 rfl (by kernel_rfl) rfl rfl rfl rfl ?_
          refine wd_no 9 rfl (by kernel_rfl) rfl rfl rfl rfl ?_
          refine wd_no 10 rfl (by kernel_rfl) rfl rfl rfl rfl ?_
          refine wd_no 11 rfl (by kernel_rfl) rfl rfl rfl rfl ?_
          refine wd_no 12 rfl (by kernel_rfl) rfl rfl rfl rfl ?_
          refine wd_no 13 rfl (by kernel_rfl) rfl rfl rfl rfl ?_
          refine wd_no 14 rfl (by kernel_rfl) rfl rfl rfl rfl ?_
          refine wd_no 15 rfl (by kernel_rfl) rfl rfl rfl rfl ?_
          refine wd_no 16 rfl (by kernel_rfl) rfl rfl rfl rfl ?_
          refine wd_no 17 rfl (by kernel_rfl) rfl rfl rfl rfl ?_
          refine wd_no 18 rfl (by kernel_rfl) rfl rfl rfl rfl ?_
          refine wd_no 19 rfl (by kernel_rfl) rfl rfl rfl rfl ?_
          refine wd_no 20 rfl (by kernel_rfl) rfl rfl rfl rfl ?_
          refine wd_no 21 rfl (by kernel_rfl) rfl rfl rfl rfl ?_
          refine wd_y 22 rfl (by kernel_rfl) rfl (y_pickF rfl rfl) ?_
          refine wd_nil (by kernel_rfl) ?_
          exact ⟨(Sub.cons rfl (Sub.cons rfl (Sub.cons rfl (Sub.cons rfl (Sub.cons rfl (Sub.cons rfl (Sub.to rfl (mb_f (by first | omega | exact ⟨fun h => ⟨(by assumption), h⟩, fun h => h.2⟩ | exact .inl (by assumption) | exact ⟨.inr, fun h => h.resolve_left (by assumption)⟩ | exact ⟨fun h => h.resolve_left (by assumption), .inr⟩ | simp [*])) Sub.nil))))))), fun _ h => h⟩
      refine w_if rfl (fun hc4 => ?_) (fun hc4 => ?_)
      ·
        have hdn := ins_down (ws := ws) hw0 (by omega) hk0 (by omega) hp1 hj0 hj1 hgt hc4
        refine w_skip ?_
        refine w_block ?_
        refine w_reg ?_
        refine wr_y rfl (y_move rfl) ?_
        refine wr_y rfl (y_subI rfl rfl (by omega)) ?_
        refine wr_y rfl (y_assign rfl) ?_
        refine wr_nil ?_
        exact ⟨j - 1, ⟨(by omega), (by omega), (hdn)⟩, (by omega), (Sub.cons rfl (Sub.cons rfl (Sub.cons rfl (Sub.cons rfl (Sub.cons rfl (Sub.cons rfl Sub.nil)))))), fun _ h => h⟩
      ·
        have hins := ins_all (ws := ws) hw0 (by omega) hk0 (by omega) hp1 hs1 hj0 hj1 hgt hc4
        refine w_exit ?_
        refine w_regd mixed ?_
        refine wd_y 1 rfl (by kernel_rfl) rfl (y_move rfl) ?_
        refine wd_y 2 rfl (by kernel_rfl) rfl (y_move rfl) ?_
        refine wd_y 3 rfl (by kernel_rfl) rfl (y_sliceTo Tryz.underlying43 sz45 rfl rfl (rdr 1 rfl) (by omega) (by omega)) ?_
        refine wd_y 5 rfl (by kernel_rfl) rfl (y_move rfl) ?_
        refine wd_y 6 rfl (by kernel_rfl) rfl (y_move rfl) ?_
        refine wd_y 7 rfl (by kernel_rfl) rfl (y_build (v := .agg #[.int .i64 q, .int .i64 k]) rfl (fun w => by kernel_rfl)) ?_
        refine wd_y 10 rfl (by kernel_rfl) rfl (y_move rfl) ?_
        refine wd_y 11 rfl (by kernel_rfl) rfl (y_move rfl) ?_
        refine wd_y 12 rfl (by kernel_rfl) rfl (y_sliceFrom Tryz.underlying43 sz45 rfl rfl (by omega) (by omega)) ?_
        refine wd_two 0 8 (by kernel_rfl) ?_ ?_
        ·
          refine t1_a 0 rfl rfl (a_litP0 Tryz.underlying43 zs45) ?_
          rintro _ _ ⟨g_23, rfl, rfl⟩
          refine ⟨.inr fun _ h => h.right (R' := [_]), ?_⟩
          refine wd_two 4 8 (by kernel_rfl) ?_ ?_
          ·
            refine t1_a 4 rfl rfl (a_appendP 0 rfl Tryz.underlying43 zb45 rfl rfl rfl rfl (RdC.toP (rdr 2 rfl) (by omega)) (by omega)) ?_
            rintro _ _ ⟨A_24, c_25, rfl, rfl⟩
            refine ⟨.inl (by kernel_rfl), ?_⟩
            refine wd_rows (R1 := [⟨45, 2, A_24, (0 + ((j).toNat)), c_25, prs (([]) ++ ((U).take (j).toNat)), false⟩, ⟨5, 1, A_11, ((rdl ws q).drop (k).toNat ++ (rdl ws q).take (k).toNat).length, c_12, ints .u8 ((rdl ws q).drop (k).toNat ++ (rdl ws q).take (k).toNat), false⟩, ⟨45, 2, B1, m1, d1, prs U, false⟩]) rfl ?_
            refine wd_as (v := .slice A_24 (0 + ((j).toNat)) c_25) rfl ?_
            refine wd_a 8 rfl (by kernel_rfl) rfl (a_litP Tryz.underlying43 zs45 rfl) ?_
            rintro _ _ ⟨g_27, rfl, rfl⟩
            refine ⟨.inr fun _ h => h.right (R' := [_]), ?_⟩
            refine wd_a 9 rfl (by kernel_rfl) rfl (a_appendP 1 rfl Tryz.underlying43 zb45 rfl rfl rfl rfl (rdr 0 rfl) (by omega)) ?_
            rintro _ _ ⟨A_28, c_29, rfl, rfl⟩
            refine ⟨.inl (by kernel_rfl), ?_⟩
            refine wd_rows (R1 := [⟨45, 2, (some ⟨g_27, 0, none⟩), 1, 1, prs ([(q, k)]), false⟩, ⟨45, 2, A_28, ((0 + ((j).toNat)) + 1), c_29, prs ((([]) ++ ((U).take (j).toNat)) ++ ([(q, k)])), false⟩, ⟨5, 1, A_11, ((rdl ws q).drop (k).toNat ++ (rdl ws q).take (k).toNat).length, c_12, ints .u8 ((rdl ws q).drop (k).toNat ++ (rdl ws q).take (k).toNat), false⟩, ⟨45, 2, B1, m1, d1, prs U, false⟩]) rfl ?_
            refine wd_as (v := .slice A_28 ((0 + ((j).toNat)) + 1) c_29) rfl ?_
            refine wd_a 13 rfl (by kernel_rfl) rfl (a_appendP 1 rfl Tryz.underlying43 zb45 rfl rfl rfl rfl (RdC.fromP (rdr 3 rfl) (by omega)) (by omega)) ?_
            rintro _ _ ⟨A_30, c_31, rfl, rfl⟩
            refine ⟨.inl (by kernel_rfl), ?_⟩
            refine wd_rows (R1 := [⟨45, 2, (some ⟨g_27, 0, none⟩), 1, 1, prs ([(q, k)]), false⟩, ⟨45, 2, A_30, (((0 + ((j).toNat)) + 1) + (m1 - (j).toNat)), c_31, prs (((([]) ++ ((U).take (j).toNat)) ++ ([(q, k)])) ++ ((U).drop (j).toNat)), false⟩, ⟨5, 1, A_11, ((rdl ws q).drop (k).toNat ++ (rdl ws q).take (k).toNat).length, c_12, ints .u8 ((rdl ws q).drop (k).toNat ++ (rdl ws q).take (k).toNat), false⟩, ⟨45, 2, B1, m1, d1, prs U, false⟩]) rfl ?_
            refine wd_as (v := .slice A_30 (((0 + ((j).toNat)) + 1) + (m1 - (j).toNat)) c_31) rfl ?_
            refine wd_y 14 rfl (by kernel_rfl) rfl (y_assign rfl) ?_
            refine wd_nil (by kernel_rfl) ?_
            refine w_reg ?_
            refine wr_y rfl (y_move rfl) ?_
            refine wr_y rfl (y_addI rfl rfl (by omega)) ?_
            refine wr_y rfl (y_assign rfl) ?_
            refine wr_nil ?_
            exact ⟨k + 1, A_30, ((0 + ((j).toNat)) + 1) + (m1 - (j).toNat), c_31, ((([]) ++ ((U).take (j).toNat)) ++ ([(q, k)])) ++ ((U).drop (j).toNat), ⟨(by omega), (by omega), (by simp only [List.length_append, List.length_take, List.length_drop, List.length_cons, List.length_nil]; omega), (hins.1), (hins.2)⟩, (by omega), (Sub.cons rfl (Sub.cons rfl (Sub.cons rfl (Sub.cons rfl Sub.nil)))), fun _ h => h.sel [1] (by decide) rfl⟩
          ·
            refine t1_a 8 rfl rfl (a_litP Tryz.underlying43 zs45 rfl) ?_
            rintro _ _ ⟨g_34, rfl, rfl⟩
            refine ⟨.inr fun _ h => h.right (R' := [_]), ?_⟩
            refine wd_a 4 rfl (by kernel_rfl) rfl (a_appendP 1 rfl Tryz.underlying43 zb45 rfl rfl rfl rfl (RdC.toP (rdr 3 rfl) (by omega)) (by omega)) ?_
            rintro _ _ ⟨A_35, c_36, rfl, rfl⟩
            refine ⟨.inl (by kernel_rfl), ?_⟩
            refine wd_rows (R1 := [⟨45, 2, (some ⟨g_34, 0, none⟩), 1, 1, prs ([(q, k)]), false⟩, ⟨45, 2, A_35, (0 + ((j).toNat)), c_36, prs (([]) ++ ((U).take (j).toNat)), false⟩, ⟨5, 1, A_11, ((rdl ws q).drop (k).toNat ++ (rdl ws q).take (k).toNat).length, c_12, ints .u8 ((rdl ws q).drop (k).toNat ++ (rdl ws q).take (k).toNat), false⟩, ⟨45, 2, B1, m1, d1, prs U, false⟩]) rfl ?_
            refine wd_as (v := .slice A_35 (0 + ((j).toNat)) c_36) rfl ?_
            refine wd_a 9 rfl (by kernel_rfl) rfl (a_appendP 1 rfl Tryz.underlying43 zb45 rfl rfl rfl rfl (rdr 0 rfl) (by omega)) ?_
            rintro _ _ ⟨A_37, c_38, rfl, rfl⟩
            refine ⟨.inl (by kernel_rfl), ?_⟩
            refine wd_rows (R1 := [⟨45, 2, (some ⟨g_34, 0, none⟩), 1, 1, prs ([(q, k)]), false⟩, ⟨45, 2, A_37, ((0 + ((j).toNat)) + 1), c_38, prs ((([]) ++ ((U).take (j).toNat)) ++ ([(q, k)])), false⟩, ⟨5, 1, A_11, ((rdl ws q).drop (k).toNat ++ (rdl ws q).take (k).toNat).length, c_12, ints .u8 ((rdl ws q).drop (k).toNat ++ (rdl ws q).take (k).toNat), false⟩, ⟨45, 2, B1, m1, d1, prs U, false⟩]) rfl ?_
            refine wd_as (v := .slice A_37 ((0 + ((j).toNat)) + 1) c_38) rfl ?_
            refine wd_a 13 rfl (by kernel_rfl) rfl (a_appendP 1 rfl Tryz.underlying43 zb45 rfl rfl rfl rfl (RdC.fromP (rdr 3 rfl) (by omega)) (by omega)) ?_
            rintro _ _ ⟨A_39, c_40, rfl, rfl⟩
            refine ⟨.inl (by kernel_rfl), ?_⟩
            refine wd_rows (R1 := [⟨45, 2, (some ⟨g_34, 0, none⟩), 1, 1, prs ([(q, k)]), false⟩, ⟨45, 2, A_39, (((0 + ((j).toNat)) + 1) + (m1 - (j).toNat)), c_40, prs (((([]) ++ ((U).take (j).toNat)) ++ ([(q, k)])) ++ ((U).drop (j).toNat)), false⟩, ⟨5, 1, A_11, ((rdl ws q).drop (k).toNat ++ (rdl ws q).take (k).toNat).length, c_12, ints .u8 ((rdl ws q).drop (k).toNat ++ (rdl ws q).take (k).toNat), false⟩, ⟨45, 2, B1, m1, d1, prs U, false⟩]) rfl ?_
            refine wd_as (v := .slice A_39 (((0 + ((j).toNat)) + 1) + (m1 - (j).toNat)) c_40) rfl ?_
            refine wd_y 14 rfl (by kernel_rfl) rfl (y_assign rfl) ?_
            refine wd_nil (by kernel_rfl) ?_
            refine w_reg ?_
            refine wr_y rfl (y_move rfl) ?_
            refine wr_y rfl (y_addI rfl rfl (by omega)) ?_
            refine wr_y rfl (y_assign rfl) ?_
            refine wr_nil ?_
            exact ⟨k + 1, A_39, ((0 + ((j).toNat)) + 1) + (m1 - (j).toNat), c_40, ((([]) ++ ((U).take (j).toNat)) ++ ([(q, k)])) ++ ((U).drop (j).toNat), ⟨(by omega), (by omega), (by simp only [List.length_append, List.length_take, List.length_drop, List.length_cons, List.length_nil]; omega), (hins.1), (hins.2)⟩, (by omega), (Sub.cons rfl (Sub.cons rfl (Sub.cons rfl (Sub.cons rfl Sub.nil)))), fun _ h => h.sel [1] (by decide) rfl⟩
        ·
          refine t1_a 8 rfl rfl (a_litP Tryz.underlying43 zs45 rfl) ?_
          rintro _ _ ⟨g_43, rfl, rfl⟩
          refine ⟨.inr fun _ h => h.right (R' := [_]), ?_⟩
          refine wd_a 0 rfl (by kernel_rfl) rfl (a_litP0 Tryz.underlying43 zs45) ?_
          rintro _ _ ⟨g_45, rfl, rfl⟩
          refine ⟨.inr fun _ h => h.right (R' := [_]), ?_⟩
          refine wd_a 4 rfl (by kernel_rfl) rfl (a_appendP 0 rfl Tryz.underlying43 zb45 rfl rfl rfl rfl (RdC.toP (rdr 3 rfl) (by omega)) (by omega)) ?_
          rintro _ _ ⟨A_46, c_47, rfl, rfl⟩
          refine ⟨.inl (by kernel_rfl), ?_⟩
          refine wd_rows (R1 := [⟨45, 2, A_46, (0 + ((j).toNat)), c_47, prs (([]) ++ ((U).take (j).toNat)), false⟩, ⟨45, 2, (some ⟨g_43, 0, none⟩), 1, 1, prs ([(q, k)]), false⟩, ⟨5, 1, A_11, ((rdl ws q).drop (k).toNat ++ (rdl ws q).take (k).toNat).length, c_12, ints .u8 ((rdl ws q).drop (k).toNat ++ (rdl ws q).take (k).toNat), false⟩, ⟨45, 2, B1, m1, d1, prs U, false⟩]) rfl ?_
          refine wd_as (v := .slice A_46 (0 + ((j).toNat)) c_47) rfl ?_
          refine wd_a 9 rfl (by kernel_rfl) rfl (a_appendP 0 rfl Tryz.underlying43 zb45 rfl rfl rfl rfl (rdr 1 rfl) (by omega)) ?_
          rintro _ _ ⟨A_48, c_49, rfl, rfl⟩
          refine ⟨.inl (by kernel_rfl), ?_⟩
          refine wd_rows (R1 := [⟨45, 2, A_48, ((0 + ((j).toNat)) + 1), c_49, prs ((([]) ++ ((U).take (j).toNat)) ++ ([(q, k)])), false⟩, ⟨45, 2, (some ⟨g_43, 0, none⟩), 1, 1, prs ([(q, k)]), false⟩, ⟨5, 1, A_11, ((rdl ws q).drop (k).toNat ++ (rdl ws q).take (k).toNat).length, c_12, ints .u8 ((rdl ws q).drop (k).toNat ++ (rdl ws q).take (k).toNat), false⟩, ⟨45, 2, B1, m1, d1, prs U, false⟩]) rfl ?_
          refine wd_as (v := .slice A_48 ((0 + ((j).toNat)) + 1) c_49) rfl ?_
          refine wd_a 13 rfl (by kernel_rfl) rfl (a_appendP 0 rfl Tryz.underlying43 zb45 rfl rfl rfl rfl (RdC.fromP (rdr 3 rfl) (by omega)) (by omega)) ?_
          rintro _ _ ⟨A_50, c_51, rfl, rfl⟩
          refine ⟨.inl (by kernel_rfl), ?_⟩
          refine wd_rows (R1 := [⟨45, 2, A_50, (((0 + ((j).toNat)) + 1) + (m1 - (j).toNat)), c_51, prs (((([]) ++ ((U).take (j).toNat)) ++ ([(q, k)])) ++ ((U).drop (j).toNat)), false⟩, ⟨45, 2, (some ⟨g_43, 0, none⟩), 1, 1, prs ([(q, k)]), false⟩, ⟨5, 1, A_11, ((rdl ws q).drop (k).toNat ++ (rdl ws q).take (k).toNat).length, c_12, ints .u8 ((rdl ws q).drop (k).toNat ++ (rdl ws q).take (k).toNat), false⟩, ⟨45, 2, B1, m1, d1, prs U, false⟩]) rfl ?_
          refine wd_as (v := .slice A_50 (((0 + ((j).toNat)) + 1) + (m1 - (j).toNat)) c_51) rfl ?_
          refine wd_y 14 rfl (by kernel_rfl) rfl (y_assign rfl) ?_
          refine wd_nil (by kernel_rfl) ?_
          refine w_reg ?_
          refine wr_y rfl (y_move rfl) ?_
          refine wr_y rfl (y_addI rfl rfl (by omega)) ?_
          refine wr_y rfl (y_assign rfl) ?_
          refine wr_nil ?_
          exact ⟨k + 1, A_50, ((0 + ((j).toNat)) + 1) + (m1 - (j).toNat), c_51, ((([]) ++ ((U).take (j).toNat)) ++ ([(q, k)])) ++ ((U).drop (j).toNat), ⟨(by omega), (by omega), (by simp only [List.length_append, List.length_take, List.length_drop, List.length_cons, List.length_nil]; omega), (hins.1), (hins.2)⟩, (by omega), (Sub.cons rfl (Sub.cons rfl (Sub.cons rfl (Sub.cons rfl Sub.nil)))), fun _ h => h.sel [0] (by decide) rfl⟩
    ·
      refine w_exit ?_
      refine w_reg ?_
      refine wr_y rfl (y_move rfl) ?_
      refine wr_y rfl (y_addI rfl rfl (by omega)) ?_
      refine wr_y rfl (y_assign rfl) ?_
      refine wr_nil ?_
      exact ⟨q + 1, B1, m1, d1, U, ⟨(by omega), (by omega), (hm1), (by have e : k.toNat = (rdl ws q).length := (by omega); rw [tlist_succ hw0, ← e]; exact hp1), (hs1)⟩, (by omega), (Sub.cons rfl (Sub.cons rfl (Sub.cons rfl Sub.nil))), fun _ h => h⟩
  ·
    refine w_exit ?_
    refine w_seq ?_
    refine w_reg ?_
    refine wr_y rfl (y_move rfl) ?_
    refine wr_y rfl (y_assign rfl) ?_
    refine wr_nil ?_
    refine w_retR (R1 := [⟨45, 2, A1, n1, c1, prs T, false⟩]) (fun _ h => h.sel [0] (by decide) rfl) ?_
    refine ⟨_, rfl, ?_⟩
    obtain rfl := hn1
    exact ⟨T, _, _, rfl, by have e : q.toNat = ws.length := (by omega); rw [← e]; exact hp, hs, rfl⟩

end Go.Proofs.YtdfcnalkdlifiaaGreat

/-! ## F10 -/
namespace Go.Proofs.YtdfcnalkdlifiaaGreat
open Go Go.Eng Go.Pure
set_option linter.unusedVariables false
end Go.Proofs.YtdfcnalkdlifiaaGreat

/-! ## Q18 -/
namespace Go.Pure
open Go Go.Eng
def cntOf (c : Int) (l : List Int) : Int := ((l.filter fun x => decide (x = c)).length : Int)
def CntI (u m : List Int) (i : Int) (V : List Int) : Prop := ∀ c : Int, 0 ≤ c → c < 256 → rd V c = cntOf c (u.take i.toNat) - cntOf c (m.take i.toNat)
section
variable {u m V : List Int} {i : Int}
end
theorem rd_mapP {l : List (Int × Int)} {f : Int × Int → Int} {i : Int} (h0 : 0 ≤ i) (h : i < l.length) : rd (l.map f) i = f (rdp l i) := by
  unfold rd rdp
  rw [List.getD_eq_getElem?_getD, List.getD_eq_getElem?_getD, List.getElem?_map, List.getElem?_eq_getElem (by omega)]
  rfl
end Go.Pure

/-! ## E17 -/
namespace Go.Eng
open Go Go.RowKit
section
variable {P : Program} {n : Nd} {B : Nat} {w0 : World} {L : Env} {R : List Row} {ty : TypeId}
end
end Go.Eng

/-! ## F11 -/
namespace Go.Proofs.YtdfcnalkdlifiaaGreat
open Go Go.Eng Go.Pure
set_option linter.unusedVariables false
set_option maxRecDepth 100000 in
set_option maxHeartbeats 1000000 in
theorem last23_ct {w : World} {A_ws : Option Addr} {n_ws c_ws : Nat} {vals_ws : List Value} {ws : List (List Int)} (h_ws : Rd w A_ws n_ws c_ws 1 vals_ws) (s_ws : SlW .u8 w vals_ws ws) (hN : ws.flatten.length ≤ 400000 ∧ ws.length ≤ 1000000) :
    Ct Tryz.prog 29 #[.slice A_ws n_ws c_ws] w.heap.size w [] (fun v R' => ∃ (lt : List (Int × Int)) (A : Option Addr) (c : Nat), v = .slice A lt.length c ∧ lt.Perm (tlist ws ws.length) ∧ lt.Pairwise (ordO ws) ∧ R' = [⟨5, 1, A, lt.length, c, ints .u8 (lt.map (lastB ws)), false⟩]) := by
  obtain rfl : n_ws = ws.length := by have := h_ws.len; have := s_ws.1; omega
  refine fn1 Tryz.func29 rfl rfl rfl ?_
  have m_ws := h_ws.max
  refine w_seq ?_
  refine w_reg ?_
  refine wr_y rfl (y_assign rfl) ?_
  refine wr_nil ?_
  refine w_seq ?_
  refine w_reg ?_
  refine wr_y rfl (y_move rfl) ?_
  refine wr_a rfl (a_callF en53 rfl (Ct.fresh (fun w hw => turns8_ct ((h_ws.c _) w hw) (s_ws.c hw) (by first | assumption | omega | decide)))) ?_
  rintro _ _ ⟨_, rfl, l8, A_1, c_2, rfl, hp8, hs8, rfl⟩
  refine wr_y rfl (y_assign rfl) ?_
  refine wr_nil ?_
  refine w_seq ?_
  refine w_reg ?_
  refine wr_sub (R1 := [⟨5, 1, none, 0, 0, ints .u8 ([]), false⟩, ⟨45, 2, A_1, l8.length, c_2, prs l8, false⟩]) (Sub.refl _) (fun _ h => h.nil 5 1) ?_
  refine wr_y rfl (y_assign rfl) ?_
  refine wr_nil ?_
  refine w_seq ?_
  refine w_seq ?_
  refine w_reg ?_
  refine wr_y rfl (y_assign rfl) ?_
  refine wr_nil ?_
  refine w_block ?_
  refine w_loop5 (fun (q : Int) (B1 : Option Addr) (m1 : Nat) (d1 : Nat) (acc : List Int) => [(0, .slice A_ws ws.length c_ws), (3, .slice A_1 l8.length c_2), (4, .slice B1 m1 d1), (5, .int .i64 q)]) (fun (q : Int) (B1 : Option Addr) (m1 : Nat) (d1 : Nat) (acc : List Int) => [⟨5, 1, B1, m1, d1, ints .u8 acc, false⟩, ⟨45, 2, A_1, l8.length, c_2, prs l8, false⟩]) (fun (q : Int) (B1 : Option Addr) (m1 : Nat) (d1 : Nat) (acc : List Int) => (0 ≤ q) ∧ (q ≤ l8.length) ∧ (m1 = acc.length) ∧ (acc.length = q.toNat) ∧ (acc = (l8.take q.toNat).map (lastB ws))) (fun (q : Int) (B1 : Option Addr) (m1 : Nat) (d1 : Nat) (acc : List Int) => (l8.length - q).toNat) ?_ ?_
  ·
    exact ⟨0, none, 0, 0, [], ⟨(by omega), (by omega), (rfl), (rfl), (rfl)⟩, (Sub.cons rfl (Sub.cons rfl (Sub.cons rfl (Sub.cons rfl Sub.nil)))), fun _ h => h⟩
  intro q B1 m1 d1 acc ⟨hq0, hq1, hm1, haq, hacc⟩
  have hll := all_len hp8
  refine w_seq ?_
  refine w_seq ?_
  refine w_reg ?_
  refine wr_y rfl (y_move rfl) ?_
  refine wr_y rfl (y_move rfl) ?_
  refine wr_y rfl (y_len Tryz.underlying43 rfl) ?_
  refine wr_y rfl (y_lt rfl rfl) ?_
  refine wr_nil ?_
  refine w_if rfl (fun hc1 => ?_) (fun hc1 => ?_)
  ·
    have ht := mem_all.1 (hp8.subset (rdp_mem (l := l8) hq0 (by omega)))
    have htm := ht.2.2
    have he0 := Int.emod_nonneg ((rdp l8 q).2 + (rdl ws (rdp l8 q).1).length - 1) (show ((rdl ws (rdp l8 q).1).length : Int) ≠ 0 by omega)
    have he1 := Int.emod_lt_of_pos ((rdp l8 q).2 + (rdl ws (rdp l8 q).1).length - 1) (show (0 : Int) < (rdl ws (rdp l8 q).1).length by omega)
    refine w_skip ?_
    refine w_seq ?_
    refine w_block ?_
    refine w_seq ?_
    refine w_reg ?_
    refine wr_y rfl (y_move rfl) ?_
    refine wr_y rfl (y_move rfl) ?_
    refine wr_y rfl (y_move rfl) ?_
    refine wr_y rfl (y_index Tryz.underlying43 sz45 rfl rfl (rdr 1 rfl) rfl (by omega) (by omega)) ?_
    refine wr_y rfl (y_pairAt (q := 0) Tryz.underlying45 sz3 rfl rfl (rdr 1 rfl) (by omega) (by omega) rfl (by decide) (by decide)) ?_
    refine wr_y rfl (y_ldP1 Tryz.underlying3 rfl rfl (rdr 1 rfl) (by omega) (by omega)) ?_
    refine wr_y rfl (y_index1 Tryz.underlying22 sz23 rfl rfl (h_ws.c _) (by first | exact ht.1 | exact ht.2.1) (by first | exact ht.1 | exact ht.2.1)) ?_
    refine s_ws.elim (i := (rdp l8 q).1) (by first | exact ht.1 | exact ht.2.1) (by first | exact ht.1 | exact ht.2.1) (fun A_4 c_5 hv_6 hr_7 hb_8 mhr_7 => ?_)
    refine wr_y rfl (y_ld Tryz.underlying23 rfl rfl rfl (h_ws.c _) hv_6) ?_
    refine wr_y rfl (y_assign rfl) ?_
    refine wr_nil ?_
    refine w_reg ?_
    refine wr_y rfl (y_move rfl) ?_
    refine wr_y rfl (y_move rfl) ?_
    refine wr_y rfl (y_move rfl) ?_
    refine wr_y rfl (y_move rfl) ?_
    refine wr_y rfl (y_index Tryz.underlying43 sz45 rfl rfl (rdr 1 rfl) rfl (by omega) (by omega)) ?_
    refine wr_y rfl (y_pairAt (q := 1) Tryz.underlying45 sz3 rfl rfl (rdr 1 rfl) (by omega) (by omega) rfl (by decide) (by decide)) ?_
    refine wr_y rfl (y_ldP2 Tryz.underlying3 rfl rfl (rdr 1 rfl) (by omega) (by omega)) ?_
    refine wr_y rfl (y_move rfl) ?_
    refine wr_y rfl (y_len Tryz.underlying23 rfl) ?_
    refine wr_y rfl (y_addI rfl rfl (by omega)) ?_
    refine wr_y rfl (y_subI rfl rfl (by omega)) ?_
    refine wr_y rfl (y_move rfl) ?_
    refine wr_y rfl (y_len Tryz.underlying23 rfl) ?_
    refine wr_y rfl (y_rem rfl rfl (by omega) (by omega)) ?_
    refine wr_y rfl (y_index1 Tryz.underlying23 sz5 rfl rfl (hr_7.c _) (by omega) (by omega)) ?_
    refine wr_y rfl (y_ldI Tryz.underlying5 rfl rfl (hr_7.c _) (by omega) (by omega)) ?_
    refine wr_a rfl (a_litI .u8 [rd (rdl ws ((rdp l8 q).1)) (((((rdp l8 q).2) + (((rdl ws ((rdp l8 q).1)).length : Nat) : Int)) - 1) % (((rdl ws ((rdp l8 q).1)).length : Nat) : Int))] Tryz.underlying23 zs5 rfl rfl rfl) ?_
    rintro _ _ ⟨g_10, rfl, rfl⟩
    refine wr_a rfl (a_appendI 1 rfl Tryz.underlying23 zb5 rfl rfl rfl (rdr 0 rfl) (by omega)) ?_
    rintro _ _ ⟨A_11, c_12, rfl, rfl⟩
    refine wr_rows (R1 := [⟨5, 1, (some ⟨g_10, 0, none⟩), 1, 1, ints .u8 ([rd (rdl ws ((rdp l8 q).1)) (((((rdp l8 q).2) + (((rdl ws ((rdp l8 q).1)).length : Nat) : Int)) - 1) % (((rdl ws ((rdp l8 q).1)).length : Nat) : Int))]), false⟩, ⟨5, 1, A_11, (m1 + 1), c_12, ints .u8 (acc ++ ([rd (rdl ws ((rdp l8 q).1)) (((((rdp l8 q).2) + (((rdl ws ((rdp l8 q).1)).length : Nat) : Int)) - 1) % (((rdl ws ((rdp l8 q).1)).length : Nat) : Int))])), false⟩, ⟨45, 2, A_1, l8.length, c_2, prs l8, false⟩]) rfl ?_
    refine wr_as (v := .slice A_11 (m1 + 1) c_12) rfl ?_
    refine wr_y rfl (y_assign rfl) ?_
    refine wr_nil ?_
    refine w_reg ?_
    refine wr_y rfl (y_move rfl) ?_
    refine wr_y rfl (y_addI rfl rfl (by omega)) ?_
    refine wr_y rfl (y_assign rfl) ?_
    refine wr_nil ?_
    exact ⟨q + 1, A_11, m1 + 1, c_12, acc ++ ([rd (rdl ws ((rdp l8 q).1)) (((((rdp l8 q).2) + (((rdl ws ((rdp l8 q).1)).length : Nat) : Int)) - 1) % (((rdl ws ((rdp l8 q).1)).length : Nat) : Int))]), ⟨(by omega), (by omega), (by rw [List.length_append, hm1]; rfl), (by rw [List.length_append, haq, List.length_singleton]; omega), (by rw [take_rdp hq0 (by omega), List.map_append, hacc]; rfl)⟩, (by omega), (Sub.cons rfl (Sub.cons rfl (Sub.cons rfl (Sub.cons rfl Sub.nil)))), fun _ h => h.sel [1, 2] (by decide) rfl⟩
  ·
    refine w_exit ?_
    refine w_seq ?_
    refine w_reg ?_
    refine wr_y rfl (y_move rfl) ?_
    refine wr_y rfl (y_assign rfl) ?_
    refine wr_nil ?_
    refine w_retR (R1 := [⟨5, 1, B1, m1, d1, ints .u8 acc, false⟩]) (fun _ h => h.sel [0] (by decide) rfl) ?_
    refine ⟨_, rfl, ?_⟩
    rw [List.take_of_length_le (by omega)] at hacc
    subst hacc
    obtain rfl : m1 = l8.length := by rw [hm1, List.length_map]
    exact ⟨l8, _, _, rfl, hp8, hs8, rfl⟩

end Go.Proofs.YtdfcnalkdlifiaaGreat

/-! ## V2 -/
namespace Go.Proofs.YtdfcnalkdlifiaaGreat
open Go Go.Eng Go.RowKit Go.Shelf Go.Proofs
attribute [local go_sem] Oper.semAt_some
theorem back_cell {W : World} {a : Addr} {n c : Nat} {xs : List Value} (h : Rd W (some a) n c 1 xs) {j : Nat} (hj : j < xs.length) : W.cell? (a.add j) = some (xs[j]'hj) := by
  obtain ⟨b, h1, h2⟩ := h.at_ j _ (List.getElem?_eq_getElem hj)
  obtain rfl := Option.some.inj h1
  exact h2
theorem _root_.Go.Eng.Iter.congr {P : Program} {gf : Nat} {lb : Array Value} {Rdy : World → Prop} {N : Nat} {f f' : Nat → List Value} (it : Iter P gf lb Rdy N f) (h : ∀ k, k < N → f k = f' k) : Iter P gf lb Rdy N f' :=
  fun l J W hR hY h0 => it l J W hR (fun k W hk hJ => by rw [h k hk]; exact hY k W hk hJ) h0
theorem ints_getD {k : IntKind} {zs : List Int} {j : Nat} (h : j < zs.length) : (ints k zs)[j]?.getD undef = .int k (rd zs (j : Int)) := by
  have := Go.Eng.ints_at (k := k) (l := zs) (i := (j : Int)) (by omega) (by omega)
  rw [Int.toNat_natCast] at this
  rw [this, Option.getD_some]

set_option maxRecDepth 100000 in
set_option maxHeartbeats 2000000 in
theorem back0_it {g : Nat} {A : Option Addr} {c : Nat} {xs : List Value} (hmax : xs.length ≤ 1000000) : Iter Tryz.prog 68 #[.pointer (some ⟨g, 0, none⟩)] (fun w => Rd w (some ⟨g, 0, none⟩) 1 1 1 [.slice A xs.length c] ∧ Rd w A xs.length c 1 xs) xs.length
    (fun k => [.int .i64 (((xs.length - 1 - k : Nat) : Int)), xs[xs.length - 1 - k]?.getD undef]) := by
  intro l J W hR hY h0
  rcases Nat.eq_zero_or_pos xs.length with hz | hpos
  · have hc : W.cell? ⟨g, 0, none⟩ = some (.slice A xs.length c) := back_cell (hR _ _ h0).1 (j := 0) (by simp)
    rw [hz] at hc
    refine callsIn_of_wp Tryz.func68 rfl trivial ?_ rfl
    simp only [Tryz.ntmps68, List.size_toArray, List.length_cons, List.length_nil, Nat.reduceAdd, Nat.reduceSub, Array.replicate_succ, Array.replicate_zero, List.push_toArray, List.append_toArray, List.nil_append, List.cons_append]
    gi_wp2
    gi_loopw [3] (fun i wr => i = .int .i64 (-1) ∧ J 0 wr) (fun _ _ => 0)
    case atStart => exact ⟨rfl, h0⟩
    case round =>
      obtain ⟨rfl, hJs⟩ := hrel
      gi_wp2
      go_end0
      exact ⟨⟨_, rfl⟩, by rw [hz]; exact hJs⟩
  · obtain ⟨a, rfl⟩ : ∃ a, A = some a := by
      obtain ⟨a, h1, _⟩ := (hR _ _ h0).2.at_ 0 _ (List.getElem?_eq_getElem hpos)
      exact ⟨a, h1⟩
    have hc : W.cell? ⟨g, 0, none⟩ = some (.slice (some a) xs.length c) := back_cell (hR _ _ h0).1 (j := 0) (by simp)
    refine callsIn_of_wp Tryz.func68 rfl trivial ?_ rfl
    simp only [Tryz.ntmps68, List.size_toArray, List.length_cons, List.length_nil, Nat.reduceAdd, Nat.reduceSub, Array.replicate_succ, Array.replicate_zero, List.push_toArray, List.append_toArray, List.nil_append, List.cons_append]
    gi_wp2
    gi_loopw [3] (fun i wr => (∃ k j : Nat, k + j + 1 = xs.length ∧ i = .int .i64 (j : Int) ∧ J k wr) ∨ (i = .int .i64 (-1) ∧ J xs.length wr)) (fun i _ => (intOf i + 1).toNat)
    case atStart => exact .inl ⟨0, xs.length - 1, by omega, by rw [show ((xs.length : Int) - 1) = ((xs.length - 1 : Nat) : Int) by omega], h0⟩
    case round =>
      rcases hrel with ⟨k, j, hkj, rfl, hJs⟩ | ⟨rfl, hJs⟩
      · obtain ⟨fn, tmps, assign, body, hy, hRd⟩ := hY k wr (by omega) hJs
        rw [show xs.length - 1 - k = j by omega] at hy
        have hjl : j < xs.length := by omega
        rw [List.getElem?_eq_getElem hjl] at hy
        simp only [Option.getD_some] at hy
        have hc1 : wr.cell? ⟨g, 0, none⟩ = some (.slice (some a) xs.length c) := back_cell (hR _ _ hJs).1 (j := 0) (by simp)
        have hc2 := back_cell (hR _ _ hJs).2 hjl
        gi_wp2
        refine ⟨rfl, hRd.mono ?_⟩
        rintro e W3 ⟨rfl, hJ3⟩
        gi_wp2
        go_roundw
        case rel =>
          rcases Nat.eq_zero_or_pos j with rfl | hj
          · exact .inr ⟨by simp, by rw [← hkj]; exact hJ3⟩
          · exact .inl ⟨k + 1, j - 1, by omega, by rw [show ((j : Int) - 1) = ((j - 1 : Nat) : Int) by omega], hJ3⟩
        case measure => simp [intOf]
      · gi_wp2
        go_end0
        exact ⟨⟨_, rfl⟩, hJs⟩

theorem back0_ints {g : Nat} {A : Option Addr} {c : Nat} {zs : List Int} (hmax : zs.length ≤ 1000000) : Iter Tryz.prog 68 #[.pointer (some ⟨g, 0, none⟩)] (fun w => Rd w (some ⟨g, 0, none⟩) 1 1 1 [.slice A zs.length c] ∧ Rd w A zs.length c 1 (ints .i64 zs)) zs.length
    (fun k => [.int .i64 (((zs.length - 1 - k : Nat) : Int)), .int .i64 (rd zs ((zs.length - 1 - k : Nat) : Int))]) := by
  have h := back0_it (g := g) (A := A) (c := c) (xs := ints .i64 zs) (by rw [ints_length]; exact hmax)
  rw [ints_length] at h
  exact h.congr fun k hk => by rw [ints_getD (by omega)]

end Go.Proofs.YtdfcnalkdlifiaaGreat

/-! ## Q31 -/
namespace Go.Pure
open Go Go.Eng
section
variable {p : List Int}
theorem walkC_keeps {j : Int} (j0 : 0 ≤ j) : ∀ (f : Nat) (E : List Bool) (k : Int), (hp : p.Perm (iota p.length)) → E.length = p.length → 0 ≤ k → k < p.length → rdb E j = true → rdb (walkC p f E k).2 j = true
  | 0, E, k, _, _, _, _, h => h
  | f + 1, E, k, hp, hl, k0, hk, h => by
    rw [walkC]
    split
    · exact h
    · have hn := mem_iota.1 (hp.subset (rd_mem (L := p) k0 hk))
      refine walkC_keeps j0 f _ _ hp (by rw [updB_len]; exact hl) hn.1 hn.2 ?_
      rw [rdb_upd k0 (by omega) j0]
      split
      · rfl
      · exact h
theorem walkC_marks (hp : p.Perm (iota p.length)) {f : Nat} {E : List Bool} {k : Int} (hl : E.length = p.length) (k0 : 0 ≤ k) (hk : k < p.length) (hf : cntF E ≤ f) : rdb (walkC p f E k).2 k = true := by
  by_cases h : rdb E k = true
  · rw [walkC_seen h]; exact h
  · rw [walkC_go k0 (by omega) hf h]
    have hn := mem_iota.1 (hp.subset (rd_mem (L := p) k0 hk))
    exact walkC_keeps k0 _ _ _ hp (by rw [updB_len]; exact hl) hn.1 hn.2 (by rw [rdb_upd k0 (by omega) k0, if_pos rfl])
theorem cycK_seen (hp : p.Perm (iota p.length)) : ∀ i : Nat, i ≤ p.length → ∀ j : Nat, j < i → rdb (cycK p i).1 j = true
  | 0, _, j, hj => by omega
  | i + 1, hi, j, hj => by
    have hf := cycK_facts hp i (by omega)
    have hc : cntF (cycK p i).1 ≤ p.length := by have := hf.2.2; omega
    rw [cycK]
    rcases Nat.lt_or_ge j i with g | g
    · exact walkC_keeps (by omega) _ _ _ hp hf.1 (by omega) (by omega) (cycK_seen hp i (by omega) j g)
    · obtain rfl : j = i := by omega
      exact walkC_marks hp hf.1 (by omega) (by omega) hc
theorem cntF_zero {E : List Bool} (h : ∀ j : Nat, j < E.length → rdb E j = true) : cntF E = 0 := by
  unfold cntF
  rw [List.countP_eq_zero]
  intro b hb
  obtain ⟨j, hj, rfl⟩ := List.mem_iff_getElem.1 hb
  have := h j hj
  have e : rdb E (j : Int) = E[j] := by unfold rdb; rw [Int.toNat_natCast, List.getD_eq_getElem?_getD, List.getElem?_eq_getElem hj]; rfl
  rw [e] at this
  rw [this]; simp
/-- Each place is in a ring. -/
theorem cycL_all (hp : p.Perm (iota p.length)) : (cycL p).flatten.length = p.length := by
  have hf := cycK_facts hp p.length (Nat.le_refl _)
  have := cntF_zero (E := (cycK p p.length).1) fun j hj => cycK_seen hp p.length (Nat.le_refl _) j (by rw [hf.1] at hj; exact hj)
  unfold cycL
  omega
theorem backL_len (l : List Int) (cs : List (List Int)) : (backL l cs).length = cs.flatten.length := by
  unfold backL
  rw [List.length_flatten, List.map_map, List.length_flatten, List.map_reverse, List.sum_reverse]
  congr 2
  funext c
  exact wordC_len l c
theorem mem_backL {l : List Int} {cs : List (List Int)} {x : Int} (h : x ∈ backL l cs) : ∃ y, y ∈ cs.flatten ∧ x = rd l y := by
  unfold backL at h
  obtain ⟨w, hw, hx⟩ := List.mem_flatten.1 h
  obtain ⟨c, hc, rfl⟩ := List.mem_map.1 hw
  unfold wordC at hx
  obtain ⟨y, hy, rfl⟩ := List.mem_map.1 hx
  exact ⟨y, List.mem_flatten.2 ⟨c, List.mem_reverse.1 hc, List.mem_reverse.1 hy⟩, rfl⟩
theorem backL_byt {l : List Int} (hl : ByteL l) (cs : List (List Int)) : ByteL (backL l cs) := fun x hx => by
  obtain ⟨y, _, rfl⟩ := mem_backL hx
  exact hl.rd _
theorem word_stepI {l c acc : List Int} {k : Int} (k0 : 0 ≤ k) (hk : k < c.length) (h : acc = ((c.reverse).take (c.length - 1 - k).toNat).map (rd l)) : acc ++ [rd l (rd c k)] = ((c.reverse).take (c.length - 1 - (k - 1)).toNat).map (rd l) := by
  have := wordC_step (l := l) (c := c) (k := ((c.length : Int) - 1 - k).toNat) (by omega)
  rw [show ((c.length : Int) - 1 - (k - 1)).toNat = ((c.length : Int) - 1 - k).toNat + 1 by omega, this, h]
  congr 4
  omega
theorem cyc_mem {cs : List (List Int)} {k : Int} (k0 : 0 ≤ k) (hk : k < cs.length) : rdl cs k ∈ cs := by
  unfold rdl
  rw [List.getD_eq_getElem?_getD, List.getElem?_eq_getElem (by omega)]
  exact List.getElem_mem _
theorem word_inner {l acc acc2 c : List Int} {kq : Nat} (hk : kq < c.length) (h : acc2 = acc ++ ((c.reverse).take kq).map (rd l)) : acc2 ++ [rd l (rd c ((c.length - 1 - kq : Nat) : Int))] = acc ++ ((c.reverse).take (kq + 1)).map (rd l) := by
  rw [wordC_step hk, ← List.append_assoc, ← h, show ((c.length - 1 - kq : Nat) : Int) = (c.length : Int) - 1 - kq by omega]
theorem cyc_count {p : List Int} : (cycL p).length ≤ p.length := cycK_few p p.length
end
end Go.Pure

/-! ## H2 -/
namespace Go.Proofs.YtdfcnalkdlifiaaGreat
open Go Go.Eng Go.Pure
set_option linter.unusedVariables false
set_option maxRecDepth 100000 in
theorem backInts_ct {B : Nat} {w0 : World} {R : List Row} {A_s : Option Addr} {n_s c_s : Nat} :
    Ct Tryz.prog 39 #[.slice A_s n_s c_s] B w0 R (fun v R' => ∃ g, v = .func (.func 68) #[] #[.pointer (some ⟨g, 0, none⟩)] ∧ R' = ⟨24, 1, some ⟨g, 0, none⟩, 1, 1, [.slice A_s n_s c_s], false⟩ :: R) := by
  refine fn1 Tryz.func39 rfl rfl rfl ?_
  refine w_seq ?_
  refine w_reg ?_
  refine wr_a rfl (a_box (sz := 1) rfl rfl) ?_
  rintro _ _ ⟨g, rfl, rfl⟩
  refine wr_y rfl (y_assign rfl) ?_
  refine wr_nil ?_
  refine w_seq ?_
  refine w_reg ?_
  refine wr_y rfl (y_makeFunc rfl rfl) ?_
  refine wr_y rfl (y_assign rfl) ?_
  refine wr_nil ?_
  refine w_ret ?_
  exact ⟨_, rfl, g, rfl, rfl⟩

set_option maxRecDepth 100000 in
theorem word22_ct {w : World} {A_l : Option Addr} {n_l c_l : Nat} {l : List Int} {A_cy : Option Addr} {n_cy c_cy : Nat} {cy : List Int} (h_l : Rd w A_l n_l c_l 1 (ints .u8 l)) (h_cy : Rd w A_cy n_cy c_cy 1 (ints .i64 cy)) (hin : ∀ x ∈ cy, 0 ≤ x ∧ x < l.length) (hN : cy.length ≤ 1000000) :
    Ct Tryz.prog 32 #[.slice A_l n_l c_l, .slice A_cy n_cy c_cy] w.heap.size w [] (fun v R' => ∃ A c, v = .slice A (wordC l cy).length c ∧ R' = [⟨5, 1, A, (wordC l cy).length, c, ints .u8 (wordC l cy), false⟩]) := by
  obtain rfl := h_l.lenI
  obtain rfl := h_cy.lenI
  refine fn1 Tryz.func32 rfl rfl rfl ?_
  have m_l := h_l.max
  have m_cy := h_cy.max
  refine w_seq ?_
  refine w_reg ?_
  refine wr_y rfl (y_assign rfl) ?_
  refine wr_nil ?_
  refine w_seq ?_
  refine w_reg ?_
  refine wr_sub (R1 := [⟨5, 1, none, 0, 0, ints .u8 ([]), false⟩]) (Sub.refl _) (fun _ h => h.nil 5 1) ?_
  refine wr_y rfl (y_assign rfl) ?_
  refine wr_nil ?_
  refine w_seq ?_
  refine w_seq ?_
  refine w_reg ?_
  refine wr_y rfl (y_move rfl) ?_
  refine wr_y rfl (y_len Tryz.underlying24 rfl) ?_
  refine wr_y rfl (y_subI rfl rfl (by omega)) ?_
  refine wr_y rfl (y_assign rfl) ?_
  refine wr_nil ?_
  refine w_block ?_
  refine w_loop5 (fun (A1 : Option Addr) (n1 : Nat) (c1 : Nat) (acc : List Int) (k : Int) => [(0, .slice A_l l.length c_l), (1, .slice A_cy cy.length c_cy), (5, .slice A1 n1 c1), (6, .int .i64 k)]) (fun (A1 : Option Addr) (n1 : Nat) (c1 : Nat) (acc : List Int) (k : Int) => [⟨5, 1, A1, n1, c1, ints .u8 acc, false⟩]) (fun (A1 : Option Addr) (n1 : Nat) (c1 : Nat) (acc : List Int) (k : Int) => (n1 = acc.length) ∧ (-1 ≤ k) ∧ (k < cy.length) ∧ (acc = ((cy.reverse).take (cy.length - 1 - k).toNat).map (rd l))) (fun (A1 : Option Addr) (n1 : Nat) (c1 : Nat) (acc : List Int) (k : Int) => (k + 1).toNat) ?_ ?_
  ·
    exact ⟨none, 0, 0, [], ((cy.length : Nat) : Int) - 1, ⟨(rfl), (by omega), (by omega), (by rw [show ((cy.length : Int) - 1 - (((cy.length : Nat) : Int) - 1)).toNat = 0 by omega]; rfl)⟩, (Sub.cons rfl (Sub.cons rfl (Sub.cons rfl (Sub.cons rfl Sub.nil)))), fun _ h => h⟩
  intro A1 n1 c1 acc k ⟨hn1, hk0, hk1, hacc⟩
  have hal := congrArg List.length hacc
  rw [List.length_map, List.length_take, List.length_reverse] at hal
  have hck : 0 ≤ k → 0 ≤ rd cy k ∧ rd cy k < l.length := fun h => hin _ (rd_mem h hk1)
  refine w_seq ?_
  refine w_seq ?_
  refine w_reg ?_
  refine wr_y rfl (y_move rfl) ?_
  refine wr_y rfl (y_ge rfl rfl) ?_
  refine wr_nil ?_
  refine w_if rfl (fun hc1 => ?_) (fun hc1 => ?_)
  ·
    have hck2 := hck (by omega)
    refine w_skip ?_
    refine w_seq ?_
    refine w_block ?_
    refine w_reg ?_
    refine wr_y rfl (y_move rfl) ?_
    refine wr_y rfl (y_move rfl) ?_
    refine wr_y rfl (y_move rfl) ?_
    refine wr_y rfl (y_move rfl) ?_
    refine wr_y rfl (y_index1 Tryz.underlying24 sz3 rfl rfl (h_cy.c _) (by omega) (by omega)) ?_
    refine wr_y rfl (y_ldI Tryz.underlying3 rfl rfl (h_cy.c _) (by omega) (by omega)) ?_
    refine wr_y rfl (y_index1 Tryz.underlying23 sz5 rfl rfl (h_l.c _) (by omega) (by omega)) ?_
    refine wr_y rfl (y_ldI Tryz.underlying5 rfl rfl (h_l.c _) (by omega) (by omega)) ?_
    refine wr_a rfl (a_litI .u8 [rd l (rd cy k)] Tryz.underlying23 zs5 rfl rfl rfl) ?_
    rintro _ _ ⟨g_2, rfl, rfl⟩
    refine wr_a rfl (a_appendI 1 rfl Tryz.underlying23 zb5 rfl rfl rfl (rdr 0 rfl) (by omega)) ?_
    rintro _ _ ⟨A_3, c_4, rfl, rfl⟩
    refine wr_rows (R1 := [⟨5, 1, (some ⟨g_2, 0, none⟩), 1, 1, ints .u8 ([rd l (rd cy k)]), false⟩, ⟨5, 1, A_3, (n1 + 1), c_4, ints .u8 (acc ++ ([rd l (rd cy k)])), false⟩]) rfl ?_
    refine wr_as (v := .slice A_3 (n1 + 1) c_4) rfl ?_
    refine wr_y rfl (y_assign rfl) ?_
    refine wr_nil ?_
    refine w_reg ?_
    refine wr_y rfl (y_move rfl) ?_
    refine wr_y rfl (y_subI rfl rfl (by omega)) ?_
    refine wr_y rfl (y_assign rfl) ?_
    refine wr_nil ?_
    exact ⟨A_3, n1 + 1, c_4, acc ++ ([rd l (rd cy k)]), k - 1, ⟨(by rw [List.length_append, hn1]; try rfl), (by omega), (by omega), (word_stepI (by omega) hk1 hacc)⟩, (by omega), (Sub.cons rfl (Sub.cons rfl (Sub.cons rfl (Sub.cons rfl Sub.nil)))), fun _ h => h.sel [1] (by decide) rfl⟩
  ·
    refine w_exit ?_
    refine w_seq ?_
    refine w_reg ?_
    refine wr_y rfl (y_move rfl) ?_
    refine wr_y rfl (y_assign rfl) ?_
    refine wr_nil ?_
    refine w_retR (R1 := [⟨5, 1, A1, n1, c1, ints .u8 acc, false⟩]) (fun _ h => h.sel [0] (by decide) rfl) ?_
    refine ⟨_, rfl, ?_⟩
    rw [show ((cy.length : Int) - 1 - k).toNat = cy.length by omega, List.take_of_length_le (by rw [List.length_reverse]; exact Nat.le_refl _)] at hacc
    obtain rfl : acc = wordC l cy := hacc
    obtain rfl := hn1
    exact ⟨_, _, rfl, rfl⟩

end Go.Proofs.YtdfcnalkdlifiaaGreat

/-! ## Q35 -/
/-
  Plain laws: what the rings are. Own work.
-/
namespace Go.Pure
open Go Go.Eng
section
variable {p : List Int}
/-- So many steps on. -/
def pit (p : List Int) : Nat → Int → Int
  | 0, i => i
  | b + 1, i => rd p (pit p b i)
theorem pit_in (hp : p.Perm (iota p.length)) {i : Int} (i0 : 0 ≤ i) (hi : i < p.length) : ∀ b : Nat, 0 ≤ pit p b i ∧ pit p b i < p.length
  | 0 => ⟨i0, hi⟩
  | b + 1 => by
    have ih := pit_in hp i0 hi b
    exact mem_iota.1 (hp.subset (rd_mem (L := p) ih.1 ih.2))
theorem pit_add (p : List Int) (a : Nat) (i : Int) : ∀ b : Nat, pit p (a + b) i = pit p b (pit p a i)
  | 0 => rfl
  | b + 1 => by rw [← Nat.add_assoc, pit, pit_add p a i b, pit]
theorem p_inj (hp : p.Perm (iota p.length)) {x y : Int} (x0 : 0 ≤ x) (hx : x < p.length) (y0 : 0 ≤ y) (hy : y < p.length) (h : rd p x = rd p y) : x = y := rd_inj (hp.symm.nodup (iota_nodup _)) x0 hx y0 hy h
/-- A ring from i on. -/
structure Ring (p : List Int) (i : Int) (c : List Int) : Prop where
  pos : 0 < c.length
  at_ : ∀ b : Nat, b < c.length → rd c b = pit p b i
  close : pit p c.length i = i
  nodup : c.Nodup
  least : ∀ x ∈ c, i ≤ x
structure ClE (p : List Int) (E : List Bool) : Prop where
  len : E.length = p.length
  back : ∀ j : Int, 0 ≤ j → j < p.length → rdb E (rd p j) = true → rdb E j = true
theorem snoc_rd {l : List Int} {x : Int} {b : Nat} (h : b < (l ++ [x]).length) : rd (l ++ [x]) b = if b < l.length then rd l b else x := by
  split
  · rename_i g; rw [rd_append_l (by omega) (by omega)]
  · rename_i g
    have : b = l.length := by simp at h; omega
    subst this
    rw [rd_append_r (by omega), Int.sub_self]
    rfl
theorem walk_full (hp : p.Perm (iota p.length)) {E0 : List Bool} {i : Int} (hE0 : ClE p E0) (i0 : 0 ≤ i) (hi : i < p.length) (hun : rdb E0 i ≠ true) (hall : ∀ j : Int, 0 ≤ j → j < i → rdb E0 j = true) :
    ∀ (f : Nat) (E : List Bool) (acc : List Int), E.length = p.length → cntF E ≤ f → (∀ b : Nat, b < acc.length → rd acc b = pit p b i) → acc.Nodup → (∀ x ∈ acc, rdb E0 x ≠ true) → (∀ j : Int, 0 ≤ j → j < p.length → (rdb E j = true ↔ rdb E0 j = true ∨ j ∈ acc)) →
    Ring p i (acc ++ (walkC p f E (pit p acc.length i)).1) ∧ (∀ x ∈ acc ++ (walkC p f E (pit p acc.length i)).1, rdb E0 x ≠ true) ∧ ∀ j : Int, 0 ≤ j → j < p.length → (rdb (walkC p f E (pit p acc.length i)).2 j = true ↔ rdb E0 j = true ∨ j ∈ acc ++ (walkC p f E (pit p acc.length i)).1)
  | f, E, acc, hl, hf, hat, hnd, hfr, hset => by
    have hk := pit_in hp i0 hi acc.length
    have hmem : ∀ b : Nat, b < acc.length → pit p b i ∈ acc := fun b hb => by rw [← hat b hb]; exact rd_mem (by omega) (by omega)
    by_cases hseen : rdb E (pit p acc.length i) = true
    · rw [walkC_seen hseen]
      simp only [List.append_nil]
      have hne : 0 < acc.length := by
        rcases Nat.eq_zero_or_pos acc.length with z | z
        · exfalso
          have hz : acc = [] := List.eq_nil_of_length_eq_zero z
          subst hz
          rcases (hset i i0 hi).1 hseen with a | a
          · exact hun a
          · cases a
        · exact z
      have hclose : pit p acc.length i = i := by
        have hz := pit_in hp i0 hi (acc.length - 1)
        have hstep : pit p acc.length i = rd p (pit p (acc.length - 1) i) := by
          obtain ⟨m, hm⟩ : ∃ m, acc.length = m + 1 := ⟨acc.length - 1, by omega⟩
          rw [hm, pit]; rfl
        rcases (hset _ hk.1 hk.2).1 hseen with a | a
        · rw [hstep] at a
          exact absurd (hE0.back _ hz.1 hz.2 a) (hfr _ (hmem _ (by omega)))
        · obtain ⟨b, hb, e⟩ := List.mem_iff_getElem.1 a
          have e2 : pit p acc.length i = pit p b i := by rw [← hat b hb, rd_get hb]; exact e.symm
          rcases Nat.eq_zero_or_pos b with z | z
          · rw [e2, z]; rfl
          · exfalso
            have hb1 := pit_in hp i0 hi (b - 1)
            have hstep2 : pit p b i = rd p (pit p (b - 1) i) := by
              obtain ⟨m, rfl⟩ : ∃ m, b = m + 1 := ⟨b - 1, by omega⟩
              rw [pit]; rfl
            have := p_inj hp hz.1 hz.2 hb1.1 hb1.2 (by rw [← hstep, ← hstep2, e2])
            rw [← hat _ (by omega), ← hat _ (by omega)] at this
            have := rd_inj hnd (by omega) (by omega) (by omega) (by omega) this
            omega
      refine ⟨⟨hne, hat, hclose, hnd, fun x hx => ?_⟩, hfr, hset⟩
      obtain ⟨b, hb, rfl⟩ := List.mem_iff_getElem.1 hx
      have hr := pit_in hp i0 hi b
      rw [← hat b hb, rd_get hb] at hr
      rcases Int.lt_or_le acc[b] i with g | g
      · exact absurd (hall _ hr.1 g) (hfr _ hx)
      · exact g
    · have hpos := cntF_pos hk.1 (by omega) hseen
      have hup := cntF_upd hk.1 (by omega) hseen
      obtain ⟨g, rfl⟩ : ∃ g, f = g + 1 := ⟨f - 1, by omega⟩
      rw [walkC_go hk.1 (by omega) hf hseen]
      have hno : ¬ (rdb E0 (pit p acc.length i) = true ∨ pit p acc.length i ∈ acc) := fun h => hseen ((hset _ hk.1 hk.2).2 h)
      have hlen : (acc ++ [pit p acc.length i]).length = acc.length + 1 := by simp
      have ih := walk_full hp hE0 i0 hi hun hall g (updB E (pit p acc.length i) true) (acc ++ [pit p acc.length i]) (by rw [updB_len]; exact hl) (by omega) (fun b hb => by
        rw [snoc_rd hb]
        split
        · rename_i q; exact hat b q
        · rename_i q; rw [show b = acc.length by rw [hlen] at hb; omega]) (List.nodup_append.2 ⟨hnd, by simp, fun x hx y hy e => by obtain rfl := List.mem_singleton.1 hy; subst e; exact hno (.inr hx)⟩) (fun x hx => by
        rcases List.mem_append.1 hx with h | h
        · exact hfr x h
        · obtain rfl := List.mem_singleton.1 h
          exact fun e => hno (.inl e)) (fun j j0 hj => by
        rw [rdb_upd hk.1 (by omega) j0, List.mem_append, List.mem_singleton]
        split
        · rename_i e; exact ⟨fun _ => .inr (.inr e), fun _ => rfl⟩
        · rename_i e; rw [hset j j0 hj]; exact ⟨fun h => h.elim .inl fun h => .inr (.inl h), fun h => h.elim .inl fun h => h.elim .inr fun h => absurd h e⟩)
      rw [hlen, pit, List.append_assoc] at ih
      exact ih
/-- All about the rings so far. -/
structure CycI (p : List Int) (i : Nat) (E : List Bool) (ls : List (List Int)) : Prop where
  cl : ClE p E
  seen : ∀ j : Int, 0 ≤ j → j < p.length → (rdb E j = true ↔ j ∈ ls.flatten)
  nodup : ls.flatten.Nodup
  ring : ∀ c ∈ ls, ∃ i0 : Int, (0 ≤ i0 ∧ i0 < i) ∧ Ring p i0 c
  heads : ls.Pairwise fun c d => rd c 0 < rd d 0
theorem cycI (hp : p.Perm (iota p.length)) : ∀ i : Nat, i ≤ p.length → CycI p i (cycK p i).1 (cycK p i).2
  | 0, _ => ⟨⟨by simp [cycK], fun j j0 hj h => by rw [cycK, rdb_rep] at h; cases h⟩, fun j j0 hj => by rw [cycK, rdb_rep]; simp, by simp [cycK], fun c hc => (by cases hc), .nil⟩
  | i + 1, hi => by
    have ih := cycI hp i (by omega)
    have hseen := cycK_seen hp i (by omega)
    have hf := cycK_facts hp i (by omega)
    have hcnt : cntF (cycK p i).1 ≤ p.length := by have := hf.2.2; omega
    rw [cycK]
    by_cases hun : rdb (cycK p i).1 i = true
    · rw [walkC_seen hun]
      simp only [if_true]
      exact ⟨ih.cl, ih.seen, ih.nodup, fun c hc => by obtain ⟨i0, h, r⟩ := ih.ring c hc; exact ⟨i0, by omega, r⟩, ih.heads⟩
    · obtain ⟨w1, w2, w3⟩ := walk_full hp ih.cl (i := i) (by omega) (by omega) hun (fun j j0 hj => by have := hseen j.toNat (by omega); rwa [show ((j.toNat : Nat) : Int) = j by omega] at this) p.length (cycK p i).1 [] hf.1 hcnt (fun b hb => by simp at hb) .nil (fun x hx => by cases hx) (fun j j0 hj => by simp)
      simp only [List.nil_append, List.length_nil, pit] at w1 w2 w3
      have hwl := (walkC_facts hp p.length (cycK p i).1 i hf.1 (by omega) (by omega))
      generalize walkC p p.length (cycK p i).1 i = r at w1 w2 w3 hwl
      obtain ⟨c, E'⟩ := r
      simp only at w1 w2 w3 hwl ⊢
      rw [if_neg (fun e => by have := w1.pos; rw [e] at this; simp at this)]
      have h0 : rd c 0 = i := w1.at_ 0 w1.pos
      refine ⟨⟨hwl.1, fun j j0 hj h => ?_⟩, fun j j0 hj => ?_, ?_, fun d hd => ?_, ?_⟩
      · have hj' := mem_iota.1 (hp.subset (rd_mem (L := p) j0 hj))
        rcases (w3 _ hj'.1 hj'.2).1 h with a | a
        · exact (w3 j j0 hj).2 (.inl (ih.cl.back j j0 hj a))
        · refine (w3 j j0 hj).2 (.inr ?_)
          obtain ⟨b, hb, e⟩ := List.mem_iff_getElem.1 a
          have e2 : rd p j = pit p b i := by rw [← w1.at_ b hb, rd_get hb]; exact e.symm
          have key : ∀ m : Nat, m < c.length → rd p j = rd p (pit p m i) → j ∈ c := fun m hm e => by
            have hm' := pit_in hp (i := i) (by omega) (by omega) m
            have := p_inj hp j0 hj hm'.1 hm'.2 e
            rw [this, ← w1.at_ m hm]
            exact rd_mem (by omega) (by omega)
          rcases Nat.eq_zero_or_pos b with z | z
          · refine key (c.length - 1) (by have := w1.pos; omega) ?_
            have hc := w1.close
            obtain ⟨m, hm⟩ : ∃ m, c.length = m + 1 := ⟨c.length - 1, by have := w1.pos; omega⟩
            rw [hm, pit] at hc
            rw [e2, z, hm]
            exact hc.symm
          · obtain ⟨m, rfl⟩ : ∃ m, b = m + 1 := ⟨b - 1, by omega⟩
            exact key m (by omega) (by rw [e2, pit])
      · rw [w3 j j0 hj, List.flatten_append, List.mem_append, ih.seen j j0 hj]
        simp
      · rw [List.flatten_append]
        refine List.nodup_append.2 ⟨ih.nodup, by simpa using w1.nodup, fun x hx y hy e => ?_⟩
        subst e
        have hy : x ∈ c := by simpa using hy
        have hx' := hwl.2.1 x hy
        exact w2 x hy ((ih.seen x hx'.1 hx'.2).2 hx)
      · rcases List.mem_append.1 hd with h | h
        · obtain ⟨i0, h, r⟩ := ih.ring d h
          exact ⟨i0, by omega, r⟩
        · obtain rfl := List.mem_singleton.1 h
          exact ⟨i, by omega, w1⟩
      · refine List.pairwise_append.2 ⟨ih.heads, List.pairwise_singleton _ _, fun d hd e he => ?_⟩
        obtain rfl := List.mem_singleton.1 he
        obtain ⟨i0, h, r⟩ := ih.ring d hd
        rw [h0, show rd d 0 = i0 from r.at_ 0 r.pos]
        omega
theorem cycL_I (hp : p.Perm (iota p.length)) : CycI p p.length (cycK p p.length).1 (cycL p) := cycI hp p.length (Nat.le_refl _)
theorem cycL_perm (hp : p.Perm (iota p.length)) : (cycL p).flatten.Perm (iota p.length) := perm_all (cycL_I hp).nodup (fun x hx => by
  obtain ⟨c, hc, hx⟩ := List.mem_flatten.1 hx
  exact mem_iota.2 (cycL_in hp c hc x hx)) (by rw [iota_len, cycL_all hp]; exact Nat.le_refl _)
end
end Go.Pure
/-
  Plain laws: rows asx words without end; ring words are less than all their endings, and do not increase. Own work.
-/
namespace Go.Pure
open Go Go.Eng
section
variable {l : List Int}
/-- The row that leads here. -/
def phi (l : List Int) (q : Int) : Int := rd (passK (iota l.length) l 256) q
theorem phi_in (hl : ByteL l) {q : Int} (q0 : 0 ≤ q) (hq : q < l.length) : 0 ≤ phi l q ∧ phi l q < l.length := by
  have h := lf_order (l := l) hl
  have hlen := h.1.length_eq
  rw [iota_len] at hlen
  exact mem_iota.1 (h.1.subset (rd_mem q0 (by omega)))
theorem phi_lf (hl : ByteL l) {i : Int} (i0 : 0 ≤ i) (hi : i < l.length) : phi l (lfC l i) = i := by
  obtain ⟨q, q0, q1, e, f⟩ := lf_ix (l := l) hl i0 hi
  rw [f]; exact e
theorem phi_tl (hl : ByteL l) {i k : Int} (i0 : 0 ≤ i) (h : i < k) (hk : k < l.length) : tl l (phi l i) (phi l k) := by
  have hlen := (lf_order (l := l) hl).1.length_eq
  rw [iota_len] at hlen
  exact pairwise_rd (lf_order (l := l) hl).2 i0 h (by omega)
/-- The word without end of a row. -/
def uw (l : List Int) : Nat → Int → Int
  | 0, i => rd l (phi l i)
  | d + 1, i => uw l d (phi l i)
def U (l : List Int) (i : Int) (d : Nat) : Int := uw l d i
theorem U_zero (i : Int) : U l i 0 = rd l (phi l i) := by unfold U; rw [uw]
theorem U_succ (i : Int) (d : Nat) : U l i (d + 1) = U l (phi l i) d := by unfold U; rw [uw]
/-- The rows are in order, more or less. -/
theorem U_mono (hl : ByteL l) : ∀ (d : Nat) (i k : Int), 0 ≤ i → i < k → k < l.length → (∀ e, e < d → U l i e = U l k e) → U l i d ≤ U l k d
  | 0, i, k, i0, h, hk, _ => by
    have := phi_tl hl i0 h hk
    rw [U_zero, U_zero]
    unfold tl at this
    omega
  | d + 1, i, k, i0, h, hk, he => by
    have h0 := he 0 (by omega)
    rw [U_zero, U_zero] at h0
    have ht := phi_tl hl i0 h hk
    unfold tl at ht
    have hi' := phi_in hl (q := i) i0 (by omega)
    have hk' := phi_in hl (q := k) (by omega) hk
    rw [U_succ, U_succ]
    refine U_mono hl d _ _ hi'.1 (by omega) hk'.2 fun e he' => ?_
    have := he (e + 1) (by omega)
    rwa [U_succ, U_succ] at this
theorem U_le (hl : ByteL l) {i k : Int} (i0 : 0 ≤ i) (h : i ≤ k) (hk : k < l.length) : ¬ Lt (U l k) (U l i) := by
  rintro ⟨d, h1, h2⟩
  rcases Int.lt_or_le i k with a | a
  · have := U_mono hl d i k i0 a hk fun e he => (h1 e he).symm
    omega
  · obtain rfl : i = k := by omega
    omega
/-- Rows of one word keep their order on the way back. -/
theorem phi_mono (hl : ByteL l) {i k : Int} (i0 : 0 ≤ i) (h : i < k) (hk : k < l.length) (he : ∀ d, U l i d = U l k d) : phi l i < phi l k ∧ ∀ d, U l (phi l i) d = U l (phi l k) d := by
  have ht := phi_tl hl i0 h hk
  have h0 := he 0
  rw [U_zero, U_zero] at h0
  unfold tl at ht
  refine ⟨by omega, fun d => ?_⟩
  have := he (d + 1)
  rwa [U_succ, U_succ] at this
/-- So many rows back. -/
def phit (l : List Int) : Nat → Int → Int
  | 0, i => i
  | b + 1, i => phit l b (phi l i)
theorem phit_in (hl : ByteL l) : ∀ (b : Nat) {i : Int}, 0 ≤ i → i < l.length → 0 ≤ phit l b i ∧ phit l b i < l.length
  | 0, i, i0, hi => ⟨i0, hi⟩
  | b + 1, i, i0, hi => by
    have h := phi_in hl i0 hi
    exact phit_in hl b h.1 h.2
theorem phit_mono (hl : ByteL l) : ∀ (b : Nat) {i k : Int}, 0 ≤ i → i < k → k < l.length → (∀ d, U l i d = U l k d) → phit l b i < phit l b k ∧ ∀ d, U l (phit l b i) d = U l (phit l b k) d
  | 0, i, k, _, h, _, he => ⟨h, he⟩
  | b + 1, i, k, i0, h, hk, he => by
    have h1 := phi_mono hl i0 h hk he
    have hi' := phi_in hl (q := i) i0 (by omega)
    have hk' := phi_in hl (q := k) (by omega) hk
    exact phit_mono hl b hi'.1 h1.1 hk'.2 h1.2
theorem U_phit (i : Int) : ∀ (b d : Nat), U l (phit l b i) d = U l i (b + d)
  | 0, d => by rw [Nat.zero_add]; rfl
  | b + 1, d => by
    rw [phit, U_phit (phi l i) b d, ← U_succ, show b + d + 1 = b + 1 + d by omega]
theorem phit_add (i : Int) : ∀ (a b : Nat), phit l (a + b) i = phit l b (phit l a i)
  | 0, b => by rw [Nat.zero_add]; rfl
  | a + 1, b => by rw [show a + 1 + b = (a + b) + 1 by omega, phit, phit_add (phi l i) a b]; rfl
theorem iter_up (hl : ByteL l) {i : Int} (i0 : 0 ≤ i) (hi : i < l.length) {b : Nat} (h : i < phit l b i) (he : ∀ d, U l i d = U l (phit l b i) d) : ∀ t : Nat, i + t ≤ phit l (t * b) i
  | 0 => by rw [Nat.zero_mul]; show i + 0 ≤ i; omega
  | t + 1 => by
    have ih := iter_up hl i0 hi h he t
    have hk := phit_in hl b i0 hi
    have h1 := (phit_mono hl (t * b) i0 h hk.2 he).1
    rw [← phit_add i b (t * b), show b + t * b = (t + 1) * b by rw [Nat.succ_mul]; omega] at h1
    omega
theorem iter_dn (hl : ByteL l) {i : Int} (i0 : 0 ≤ i) (hi : i < l.length) {b : Nat} (h : phit l b i < i) (he : ∀ d, U l i d = U l (phit l b i) d) : ∀ t : Nat, phit l (t * b) i + t ≤ i
  | 0 => by rw [Nat.zero_mul]; show i + 0 ≤ i; omega
  | t + 1 => by
    have ih := iter_dn hl i0 hi h he t
    have hk := phit_in hl b i0 hi
    have h1 := (phit_mono hl (t * b) hk.1 h hi fun d => (he d).symm).1
    rw [← phit_add i b (t * b), show b + t * b = (t + 1) * b by rw [Nat.succ_mul]; omega] at h1
    omega
/-- No row of a ring says the same asx another one of it. -/
theorem row_once (hl : ByteL l) {i : Int} (i0 : 0 ≤ i) (hi : i < l.length) {b : Nat} (hne : phit l b i ≠ i) : ¬ ∀ d, U l i d = U l (phit l b i) d := fun he => by
  rcases Int.lt_or_le i (phit l b i) with h | h
  · have := iter_up hl i0 hi h he (l.length + 1)
    have := phit_in hl ((l.length + 1) * b) i0 hi
    omega
  · have := iter_dn hl i0 hi (by omega) he (l.length + 1)
    have := phit_in hl ((l.length + 1) * b) i0 hi
    omega
theorem fs_perm (hl : ByteL l) : (((iota l.length).map (lfC l))).Perm (iota ((iota l.length).map (lfC l)).length) := by
  rw [List.length_map, iota_len]
  exact bij_perm (fun x h0 h1 => lf_bd (l := l) hl h0 h1) fun x y x0 x1 y0 y1 e => lf_inj (l := l) hl x0 x1 y0 y1 e
def lfL (l : List Int) : List Int := (iota l.length).map (lfC l)
theorem lfL_len (l : List Int) : (lfL l).length = l.length := by unfold lfL; rw [List.length_map, iota_len]
theorem rd_lfL {i : Int} (i0 : 0 ≤ i) (hi : i < l.length) : rd (lfL l) i = lfC l i := by
  unfold lfL
  rw [rd_map i0 (by rw [iota_len]; exact hi), rd_iota i0 hi]
theorem lfL_perm (hl : ByteL l) : (lfL l).Perm (iota (lfL l).length) := fs_perm hl
theorem phit_pit (hl : ByteL l) {i : Int} (i0 : 0 ≤ i) (hi : i < l.length) : ∀ b : Nat, phit l b (pit (lfL l) b i) = i
  | 0 => rfl
  | b + 1 => by
    have h := pit_in (lfL_perm hl) i0 (by rw [lfL_len]; exact hi) b
    rw [lfL_len] at h
    rw [phit, pit, rd_lfL h.1 h.2, phi_lf hl h.1 h.2]
    exact phit_pit hl i0 hi b
section
variable {i : Int} {c : List Int} (hl : ByteL l) (i0 : 0 ≤ i) (hi : i < l.length) (hc : Ring (lfL l) i c)
include hl i0 hi hc
/-- Back in a ring: asx its rows stand, from the end. -/
theorem ring_back {b : Nat} (hb : b ≤ c.length) : phit l b i = pit (lfL l) (c.length - b) i := by
  have h := phit_pit hl (pit_in (lfL_perm hl) i0 (by rw [lfL_len]; exact hi) (c.length - b)).1 (by have := (pit_in (lfL_perm hl) i0 (by rw [lfL_len]; exact hi) (c.length - b)).2; rw [lfL_len] at this; exact this) b
  rw [← pit_add, show c.length - b + b = c.length by omega, hc.close] at h
  exact h
theorem ring_round : phit l c.length i = i := by
  rw [ring_back hl i0 hi hc (Nat.le_refl _), Nat.sub_self]; rfl
theorem ring_per : Per (U l i) c.length := fun d => by
  rw [Nat.add_comm, ← U_phit, ring_round hl i0 hi hc]
theorem wordC_at {d : Nat} (hd : d < c.length) : rd (wordC l c) d = U l i d := by
  have h1 : rd (wordC l c) d = rd l (rd c ((c.length - 1 - d : Nat) : Int)) := by
    unfold wordC
    rw [rd_map (by omega) (by rw [List.length_reverse]; omega)]
    congr 1
    rw [rd_get (by rw [List.length_reverse]; exact hd), List.getElem_reverse, rd_get (by omega)]
  have h2 : U l i d = rd l (phit l (d + 1) i) := by
    have := U_phit (l := l) i d 0
    rw [Nat.add_zero, U_zero] at this
    rw [← this, phit_add i d 1]; rfl
  rw [h1, h2, hc.at_ _ (by omega), ring_back hl i0 hi hc (by omega), show c.length - (d + 1) = c.length - 1 - d by omega]
theorem wordC_om : om (wordC l c) = U l i := by
  funext d
  have hp := hc.pos
  have h1 : om (wordC l c) d = rd (wordC l c) ((d % c.length : Nat) : Int) := by
    unfold om rd
    rw [wordC_len, Int.toNat_natCast]
  rw [h1, wordC_at hl i0 hi hc (Nat.mod_lt _ hp)]
  exact (ring_per hl i0 hi hc).mod d
theorem ring_other {r : Nat} (r0 : 0 < r) (hr : r < c.length) : i < phit l r i := by
  rw [ring_back hl i0 hi hc (by omega)]
  have h1 := hc.least _ (rd_mem (L := c) (k := ((c.length - r : Nat) : Int)) (by omega) (by omega))
  rw [hc.at_ _ (by omega)] at h1
  rcases Int.lt_or_le i (pit (lfL l) (c.length - r) i) with g | g
  · exact g
  · exfalso
    have e : rd c ((c.length - r : Nat) : Int) = rd c ((0 : Nat) : Int) := by
      rw [hc.at_ _ (by omega), hc.at_ 0 hc.pos]
      show _ = i
      omega
    have := rd_inj hc.nodup (by omega) (by omega) (by omega) (by have := hc.pos; omega) e
    omega
/-- A ring's word is less than all its endings. -/
theorem ring_lyn : LynB (wordC l c) = true := by
  rw [LynB_iff, wordC_len]
  refine ⟨hc.pos, fun r r0 hr => ?_⟩
  have hot := ring_other hl i0 hi hc r0 hr
  have hin := phit_in hl r i0 hi
  have hnl := U_le hl i0 (Int.le_of_lt hot) hin.2
  have hne := row_once hl i0 hi (b := r) (by omega)
  have hlt : Lt (U l i) (U l (phit l r i)) := by
    rcases lt_tri (U l i) (U l (phit l r i)) with a | a | a
    · exact a
    · exact absurd a hne
    · exact absurd a hnl
  obtain ⟨d, h1, h2⟩ := hlt
  have hsh : ∀ e, U l (phit l r i) e = U l i (r + e) := fun e => U_phit i r e
  rw [hsh] at h2
  have hdm : d < c.length - r := by
    rcases Nat.lt_or_ge d (c.length - r) with g | g
    · exact g
    · exfalso
      have hper := ring_per hl i0 hi hc
      have hot2 := ring_other hl i0 hi hc (r := c.length - r) (by omega) (by omega)
      have hin2 := phit_in hl (c.length - r) i0 hi
      refine U_le hl i0 (Int.le_of_lt hot2) hin2.2 ⟨d - (c.length - r), fun e he => ?_, ?_⟩
      · rw [U_phit]
        have := h1 (c.length - r + e) (by omega)
        rw [this, hsh, show r + (c.length - r + e) = e + c.length by omega, hper]
      · rw [U_phit, show c.length - r + (d - (c.length - r)) = d by omega]
        rw [show r + d = (d - (c.length - r)) + c.length by omega, hper] at h2
        exact h2
  rw [cmpL_neg_iff _ _ (by rw [List.length_drop, wordC_len]; omega), List.length_drop, wordC_len]
  have hlt : ∀ e, e < c.length → lt (wordC l c) e = U l i e := fun e he => by
    rw [← wordC_at hl i0 hi hc he]
    unfold lt rd
    rw [Int.toNat_natCast]
  refine ⟨d, hdm, fun e he => ?_, ?_⟩
  · rw [lt_drop, hlt e (by omega), hlt (r + e) (by omega), h1 e he, hsh]
  · rw [lt_drop, hlt d (by omega), hlt (r + d) (by omega)]
    exact h2
end
end
end Go.Pure
/-
  Plain laws: words that are less than all their endings, not increasing, are the factors of their text. Own work.
-/
namespace Go.Pure
open Go Go.Eng
theorem om_at {w : List Int} {e : Nat} (h : e < w.length) : om w e = lt w e := om_lt h
theorem LynB_at {v : List Int} (h : LynB v = true) {r : Nat} (r0 : 0 < r) (hr : r < v.length) : ∃ d, d < v.length - r ∧ (∀ e, e < d → lt v e = lt v (r + e)) ∧ lt v d < lt v (r + d) := by
  have := ((LynB_iff v).1 h).2 r r0 hr
  rw [cmpL_neg_iff _ _ (by rw [List.length_drop]; omega), List.length_drop] at this
  obtain ⟨d, h1, h2, h3⟩ := this
  refine ⟨d, h1, fun e he => ?_, ?_⟩
  · rw [h2 e he, lt_drop]
  · rwa [lt_drop] at h3
/-- A word that goes on beyond a beginning of it that is such a word is greater without end. -/
theorem longer {w v : List Int} (hw : 0 < w.length) (hv : LynB v = true) (hlen : w.length < v.length) (hpre : ∀ e, e < w.length → lt v e = lt w e) : Lt (om w) (om v) := by
  obtain ⟨d, h1, h2, h3⟩ := LynB_at hv hw hlen
  have hper := om_per w
  have agr : ∀ e, e < w.length + d → lt v e = om w e := by
    intro e
    induction e using Nat.strongRecOn with
    | ind e ih =>
      intro he
      rcases Nat.lt_or_ge e w.length with g | g
      · rw [hpre e g, om_at g]
      · have e1 := h2 (e - w.length) (by omega)
        rw [show w.length + (e - w.length) = e by omega] at e1
        have e2 := hper (e - w.length)
        rw [show e - w.length + w.length = e by omega] at e2
        rw [← e1, e2]
        exact ih (e - w.length) (by omega) (by omega)
  refine ⟨w.length + d, fun f hf => ?_, ?_⟩
  · rw [om_at (w := v) (by omega), agr f hf]
  · rw [om_at (w := v) (by omega)]
    have e1 := hper d
    rw [Nat.add_comm d w.length] at e1
    rw [e1, ← agr d (by omega)]
    exact h3
theorem in_word : ∀ (ws : List (List Int)) (m : Nat), 0 < m → m ≤ ws.flatten.length → ∃ v ∈ ws, ∃ r, r < m ∧ m ≤ r + v.length ∧ ∀ e, e < v.length → lt ws.flatten (r + e) = lt v e
  | [], m, h0, h => by simp at h; omega
  | w :: ws, m, h0, h => by
    rw [List.flatten_cons, List.length_append] at h
    rcases Nat.lt_or_ge w.length m with g | g
    · obtain ⟨v, hv, r, h1, h2, h3⟩ := in_word ws (m - w.length) (by omega) (by omega)
      refine ⟨v, List.mem_cons_of_mem _ hv, w.length + r, by omega, by omega, fun e he => ?_⟩
      rw [List.flatten_cons, ← h3 e he]
      unfold lt
      rw [List.getD_eq_getElem?_getD, List.getD_eq_getElem?_getD, List.getElem?_append_right (by omega), show w.length + r + e - w.length = r + e by omega]
    · refine ⟨w, by simp, 0, h0, by omega, fun e he => ?_⟩
      rw [List.flatten_cons, Nat.zero_add]
      unfold lt
      rw [List.getD_eq_getElem?_getD, List.getD_eq_getElem?_getD, List.getElem?_append_left he]
theorem fac_first {w : List Int} {ws : List (List Int)} (hw : LynB w = true) (hws : ∀ v ∈ ws, LynB v = true) (hle : ∀ v ∈ ws, ¬ Lt (om w) (om v)) : lynLen (w ++ ws.flatten) (w ++ ws.flatten).length = w.length := by
  have hpos := ((LynB_iff w).1 hw).1
  refine lynLen_eq (by rw [List.take_left']; exact hw; rfl) _ (by simp) fun m h1 h2 => ?_
  cases hb : LynB ((w ++ ws.flatten).take m) with
  | false => rfl
  | true =>
    exfalso
    rw [List.length_append] at h2
    obtain ⟨v, hv, r, r1, r2, r3⟩ := in_word ws (m - w.length) (by omega) (by omega)
    have hml : ((w ++ ws.flatten).take m).length = m := by rw [List.length_take, List.length_append]; omega
    obtain ⟨d, d1, d2, d3⟩ := LynB_at hb (r := w.length + r) (by omega) (by omega)
    rw [hml] at d1
    have hs : ∀ e, e < m → lt ((w ++ ws.flatten).take m) e = lt (w ++ ws.flatten) e := fun e he => lt_take he
    have hsw : ∀ e, e < w.length → lt (w ++ ws.flatten) e = lt w e := fun e he => by
      unfold lt
      rw [List.getD_eq_getElem?_getD, List.getD_eq_getElem?_getD, List.getElem?_append_left he]
    have hsv : ∀ e, e < v.length → lt (w ++ ws.flatten) (w.length + r + e) = lt v e := fun e he => by
      rw [← r3 e he]
      unfold lt
      rw [List.getD_eq_getElem?_getD, List.getD_eq_getElem?_getD, List.getElem?_append_right (by omega), show w.length + r + e - w.length = r + e by omega]
    have hlv := hws v hv
    have q2 : ∀ e, e < d → lt (w ++ ws.flatten) e = lt v e := fun e he => by
      have := d2 e he
      rwa [hs _ (by omega), hs _ (by omega), hsv e (by omega)] at this
    have q3 : lt (w ++ ws.flatten) d < lt v d := by rwa [hs _ (by omega), hs _ (by omega), hsv d (by omega)] at d3
    rcases Nat.lt_or_ge d w.length with g | g
    · refine hle v hv ⟨d, fun e he => ?_, ?_⟩
      · rw [om_at (w := w) (by omega), om_at (w := v) (by omega), ← q2 e he, hsw e (by omega)]
      · rw [om_at (w := w) g, om_at (w := v) (by omega), ← hsw d g]
        exact q3
    · exact hle v hv (longer hpos hlv (by omega) fun e he => by rw [← q2 e (by omega), hsw e he])
theorem fac_all : ∀ {ws : List (List Int)}, (∀ v ∈ ws, LynB v = true) → ws.Pairwise (fun a b => ¬ Lt (om a) (om b)) → facL ws.flatten = ws.map fun w => (w.length : Int)
  | [], _, _ => facL_nil rfl
  | w :: ws, hl, hp => by
    obtain ⟨h1, h2⟩ := List.pairwise_cons.1 hp
    have hw := hl w (by simp)
    have hpos := ((LynB_iff w).1 hw).1
    have hf := fac_first hw (fun v hv => hl v (List.mem_cons_of_mem _ hv)) h1
    rw [List.flatten_cons, facL_cons (by rw [List.length_append]; omega), hf, List.drop_left', List.map_cons, fac_all (fun v hv => hl v (List.mem_cons_of_mem _ hv)) h2]
    rfl
theorem ps_map_len (ws : List (List Int)) (k : Nat) : ps (ws.map fun w => (w.length : Int)) k = ((ws.take k).flatten.length : Int) := by
  unfold ps
  rw [Int.toNat_natCast, ← List.map_take]
  induction ws.take k with
  | nil => rfl
  | cons w l ih => rw [List.map_cons, List.sum_cons, ih, List.flatten_cons, List.length_append]; omega
theorem cut_words (ws : List (List Int)) : wordsK ws.flatten (ws.map fun w => (w.length : Int)) ws.length = ws := by
  refine List.ext_getElem (by rw [wordsK_len]; omega) fun k h1 h2 => ?_
  simp only [wordsK, List.getElem_map, List.getElem_range]
  rw [ps_map_len, Int.toNat_natCast, rd_get (by rw [List.length_map]; exact h2), List.getElem_map, Int.toNat_natCast]
  have e : ws.flatten = (ws.take k).flatten ++ (ws[k] ++ (ws.drop (k + 1)).flatten) := by
    conv => lhs; rw [← List.take_append_drop k ws, List.drop_eq_getElem_cons h2]
    rw [List.flatten_append, List.flatten_cons]
  rw [e, List.drop_left' rfl, List.take_left' rfl]
/-- Its factors are these words. -/
theorem bws_words {ws : List (List Int)} (hl : ∀ v ∈ ws, LynB v = true) (hp : ws.Pairwise (fun a b => ¬ Lt (om a) (om b))) : bws ws.flatten = ws := by
  unfold bws
  rw [fac_all hl hp, List.length_map]
  exact cut_words ws
end Go.Pure
/-
  Plain laws: turned without a mark, and back; back, and turned. Own work.
-/
namespace Go.Pure
open Go Go.Eng
section
variable {l : List Int}
def ringW (l : List Int) : List (List Int) := ((cycL (lfL l)).reverse).map (wordC l)
theorem backL_ring (l : List Int) : backL l (cycL (lfL l)) = (ringW l).flatten := rfl
theorem ring_of (hl : ByteL l) {c : List Int} (hc : c ∈ cycL (lfL l)) : ∃ i : Int, (0 ≤ i ∧ i < l.length) ∧ Ring (lfL l) i c ∧ rd c 0 = i := by
  obtain ⟨i, h, r⟩ := (cycL_I (lfL_perm hl)).ring c hc
  rw [lfL_len] at h
  exact ⟨i, h, r, r.at_ 0 r.pos⟩
theorem ringW_lyn (hl : ByteL l) : ∀ v ∈ ringW l, LynB v = true := fun v hv => by
  obtain ⟨c, hc, rfl⟩ := List.mem_map.1 hv
  obtain ⟨i, h, r, _⟩ := ring_of hl (List.mem_reverse.1 hc)
  exact ring_lyn hl h.1 h.2 r
theorem ringW_down (hl : ByteL l) : (ringW l).Pairwise (fun a b => ¬ Lt (om a) (om b)) := by
  unfold ringW
  rw [List.map_reverse]
  refine List.pairwise_reverse.2 (List.pairwise_map.2 ?_)
  refine List.Pairwise.imp_of_mem (fun {c d} hc hd h => ?_) (cycL_I (lfL_perm hl)).heads
  obtain ⟨i, hi, r, e⟩ := ring_of hl hc
  obtain ⟨k, hk, q, f⟩ := ring_of hl hd
  rw [wordC_om hl hi.1 hi.2 r, wordC_om hl hk.1 hk.2 q]
  exact U_le hl hi.1 (by omega) hk.2
/-- The factors of what is read back are the rings' words. -/
theorem bws_back (hl : ByteL l) : bws (backL l (cycL (lfL l))) = ringW l := by
  rw [backL_ring]
  exact bws_words (ringW_lyn hl) (ringW_down hl)
theorem tw_om {ws : List (List Int)} {w : Int} {j : Nat} : tw ws (w, (j : Int)) = fun d => om (rdl ws w) (j + d) := by
  funext d
  unfold tw om
  simp only [Int.toNat_natCast]
/-- The rows of a ring, from its first one back. -/
theorem ring_perm (hl : ByteL l) {i : Int} {c : List Int} (i0 : 0 ≤ i) (hi : i < l.length) (hc : Ring (lfL l) i c) : ((List.range c.length).map fun j => phit l j i).Perm c := by
  have hpos := hc.pos
  have hback : ∀ j, j < c.length → phit l j i = rd c (((c.length - j) % c.length : Nat) : Int) := fun j hj => by
    rw [ring_back hl i0 hi hc (by omega)]
    rcases Nat.eq_zero_or_pos j with z | z
    · subst z
      rw [Nat.sub_zero, hc.close, Nat.mod_self, hc.at_ 0 hpos]
      rfl
    · rw [Nat.mod_eq_of_lt (by omega), hc.at_ _ (by omega)]
  refine perm_all ?_ (fun x hx => ?_) (by simp)
  · refine List.pairwise_map.2 (List.Pairwise.imp_of_mem (fun {a b} ha hb hab e => ?_) List.nodup_range)
    have ha := List.mem_range.1 ha
    have hb := List.mem_range.1 hb
    rw [hback a ha, hback b hb] at e
    have h1 := Nat.mod_lt (c.length - a) hpos
    have h2 := Nat.mod_lt (c.length - b) hpos
    have := rd_inj hc.nodup (by omega) (by omega) (by omega) (by omega) e
    have e3 : (c.length - a) % c.length = (c.length - b) % c.length := by omega
    refine hab ?_
    rcases Nat.eq_zero_or_pos a with z | z
    · rcases Nat.eq_zero_or_pos b with y | y
      · omega
      · rw [z, Nat.sub_zero, Nat.mod_self, Nat.mod_eq_of_lt (by omega)] at e3; omega
    · rcases Nat.eq_zero_or_pos b with y | y
      · rw [y, Nat.sub_zero, Nat.mod_self, Nat.mod_eq_of_lt (by omega)] at e3; omega
      · rw [Nat.mod_eq_of_lt (by omega), Nat.mod_eq_of_lt (by omega)] at e3; omega
  · obtain ⟨j, hj, rfl⟩ := List.mem_map.1 hx
    have hj := List.mem_range.1 hj
    have h1 := Nat.mod_lt (c.length - j) hpos
    rw [hback j hj]
    exact rd_mem (by omega) (by omega)
/-- All rotations of the rings' words are the rows. -/
theorem turns_rows (hl : ByteL l) : ∀ k : Nat, k ≤ (cycL (lfL l)).length → ((tlist (ringW l) k).map (tw (ringW l))).Perm (((((cycL (lfL l)).reverse).take k).flatten).map (U l))
  | 0, _ => .refl _
  | k + 1, hk => by
    have ih := turns_rows hl k (by omega)
    have hlt : k < (cycL (lfL l)).reverse.length := by rw [List.length_reverse]; omega
    rw [tlist, List.map_append, List.take_add_one, List.getElem?_eq_getElem hlt, List.flatten_append, List.map_append]
    refine ih.append ?_
    simp only [Option.toList_some, List.flatten_cons, List.flatten_nil, List.append_nil]
    have hmem : (cycL (lfL l)).reverse[k] ∈ cycL (lfL l) := List.mem_reverse.1 (List.getElem_mem hlt)
    have hrw : rdl (ringW l) (k : Int) = wordC l (cycL (lfL l)).reverse[k] := by
      unfold rdl ringW
      rw [Int.toNat_natCast, List.getD_eq_getElem?_getD, List.getElem?_map, List.getElem?_eq_getElem hlt]
      rfl
    generalize (cycL (lfL l)).reverse[k] = c at hmem hrw
    obtain ⟨i, hi, r, _⟩ := ring_of hl hmem
    have h1 := (ring_perm hl hi.1 hi.2 r).map (U l)
    refine List.Perm.trans (.of_eq ?_) h1
    rw [hrw, wordC_len]
    unfold turnsOf
    rw [List.map_map, List.map_map]
    refine List.map_congr_left fun j _ => ?_
    show tw (ringW l) ((k : Int), (j : Int)) = U l (phit l j i)
    rw [tw_om, hrw, wordC_om hl hi.1 hi.2 r]
    funext d
    rw [U_phit]
theorem row_round (hl : ByteL l) {q : Int} (q0 : 0 ≤ q) (hq : q < l.length) : ∃ m : Nat, 0 < m ∧ phit l m q = q := by
  have hp := cycL_perm (lfL_perm hl)
  obtain ⟨c, hc, hqc⟩ := List.mem_flatten.1 (hp.symm.subset (mem_iota.2 ⟨q0, by rw [lfL_len]; exact hq⟩))
  obtain ⟨i, hi, r, _⟩ := ring_of hl hc
  obtain ⟨j, hj, e⟩ := List.mem_map.1 ((ring_perm hl hi.1 hi.2 r).symm.subset hqc)
  refine ⟨c.length, r.pos, ?_⟩
  rw [← e, ← phit_add, Nat.add_comm, phit_add, ring_round hl hi.1 hi.2 r]
theorem phit_mul {q : Int} {m : Nat} (h : phit l m q = q) : ∀ t : Nat, phit l (t * m) q = q
  | 0 => by rw [Nat.zero_mul]; rfl
  | t + 1 => by rw [Nat.succ_mul, phit_add, phit_mul h t, h]
theorem U_last {q : Int} {m t : Nat} (hm : phit l m q = q) (m0 : 0 < m) (t0 : 0 < t) : U l q (m * t - 1) = rd l q := by
  have h := phit_mul hm t
  rw [Nat.mul_comm] at h
  have hpos : 0 < m * t := Nat.mul_pos m0 t0
  have h2 := U_phit (l := l) q (m * t - 1) 0
  rw [Nat.add_zero, U_zero] at h2
  rw [← h2]
  have h3 := phit_add (l := l) q (m * t - 1) 1
  rw [show m * t - 1 + 1 = m * t by omega, h] at h3
  rw [show phi l (phit l (m * t - 1) q) = phit l 1 (phit l (m * t - 1) q) from rfl, ← h3]
end
def byteV : List Int := (List.range 256).map fun c : Nat => (c : Int)
theorem mem_byteV {x : Int} : x ∈ byteV ↔ 0 ≤ x ∧ x < 256 := by
  unfold byteV
  rw [List.mem_map]
  constructor
  · rintro ⟨c, hc, rfl⟩
    have := List.mem_range.1 hc
    omega
  · intro h
    exact ⟨x.toNat, List.mem_range.2 (by omega), by omega⟩
theorem byteV_nodup : byteV.Nodup := List.pairwise_map.2 (List.Pairwise.imp (fun h e => h (by omega)) List.nodup_range)
def allW : Nat → List (List Int)
  | 0 => [[]]
  | n + 1 => byteV.flatMap fun c => (allW n).map fun w => c :: w
theorem mem_allW : ∀ {n : Nat} {w : List Int}, w ∈ allW n ↔ w.length = n ∧ ByteL w
  | 0, w => by
    rw [allW, List.mem_singleton]
    exact ⟨fun h => by subst h; exact ⟨rfl, fun x hx => by cases hx⟩, fun h => List.eq_nil_of_length_eq_zero h.1⟩
  | n + 1, w => by
    rw [allW, List.mem_flatMap]
    constructor
    · rintro ⟨c, hc, hw⟩
      obtain ⟨v, hv, rfl⟩ := List.mem_map.1 hw
      have hv := mem_allW.1 hv
      refine ⟨by simp [hv.1], fun x hx => ?_⟩
      rcases List.mem_cons.1 hx with rfl | hx
      · exact mem_byteV.1 hc
      · exact hv.2 x hx
    · rintro ⟨hl, hb⟩
      cases w with
      | nil => simp at hl
      | cons c v => exact ⟨c, mem_byteV.2 (hb c (by simp)), List.mem_map.2 ⟨v, mem_allW.2 ⟨by simpa using hl, fun x hx => hb x (List.mem_cons_of_mem _ hx)⟩, rfl⟩⟩
theorem allW_nodup : ∀ n : Nat, (allW n).Nodup
  | 0 => by rw [allW]; exact List.pairwise_singleton _ _
  | n + 1 => by
    rw [allW]
    refine List.pairwise_flatMap.2 ⟨fun c _ => List.pairwise_map.2 ((allW_nodup n).imp fun h e => h (List.cons.inj e).2), byteV_nodup.imp fun {c d} h x hx y hy e => ?_⟩
    obtain ⟨v, _, rfl⟩ := List.mem_map.1 hx
    obtain ⟨w, _, rfl⟩ := List.mem_map.1 hy
    exact h (List.cons.inj e).1
/-- What is read back tells what it was read from. -/
theorem back_inj {l k : List Int} (hl : ByteL l) (hk : ByteL k) (hlen : l.length = k.length) (h : backL l (cycL (lfL l)) = backL k (cycL (lfL k))) : l = k := by
  have hw : ringW l = ringW k := by rw [← bws_back hl, ← bws_back hk, h]
  have all : ∀ {x : List Int}, ByteL x → ((tlist (ringW x) (ringW x).length).map (tw (ringW x))).Perm ((iota x.length).map (U x)) := fun {x} hx => by
    have hlx : (ringW x).length = (cycL (lfL x)).length := by unfold ringW; rw [List.length_map, List.length_reverse]
    rw [hlx]
    refine (turns_rows hx _ (Nat.le_refl _)).trans ?_
    rw [List.take_of_length_le (by rw [List.length_reverse]; exact Nat.le_refl _)]
    have hc := cycL_perm (lfL_perm hx)
    rw [lfL_len] at hc
    exact (((List.reverse_perm _).flatten).trans hc).map _
  have srt : ∀ {x : List Int}, ByteL x → ((iota x.length).map (U x)).Pairwise fun a b => ¬ Lt b a := fun {x} hx => List.pairwise_map.2 (List.Pairwise.imp_of_mem (fun {i k} hi hk h => by
    have hi := mem_iota.1 hi
    have hk := mem_iota.1 hk
    exact U_le hx hi.1 (Int.le_of_lt h) hk.2) (iota_inc x.length))
  have h1 := all hl
  rw [hw] at h1
  have same : (iota l.length).map (U l) = (iota k.length).map (U k) := (h1.symm.trans (all hk)).eq_of_pairwise (fun a b _ _ x y => by
    rcases lt_tri a b with z | z | z
    · exact absurd z y
    · exact funext z
    · exact absurd z x) (srt hl) (srt hk)
  refine list_ext_rd hlen fun q q0 q1 => ?_
  have at_ : ∀ {x : List Int}, q < x.length → ((iota x.length).map (U x))[q.toNat]? = some (U x q) := fun {x} hx => by
    rw [List.getElem?_map, List.getElem?_eq_getElem (by rw [iota_len]; omega)]
    have := rd_iota (n := x.length) q0 hx
    rw [rd_getI q0 (by rw [iota_len]; omega)] at this
    rw [this]
    rfl
  have e := at_ q1
  rw [same, at_ (by omega)] at e
  have eU : U k q = U l q := Option.some.inj e
  obtain ⟨m, m0, hm⟩ := row_round hl q0 q1
  obtain ⟨m', m0', hm'⟩ := row_round hk q0 (by omega : q < k.length)
  have a := U_last hm m0 m0'
  have b := U_last hm' m0' m0
  rw [Nat.mul_comm, eU, a] at b
  exact b
/-- All texts are read back from one. -/
theorem back_onto {s : List Int} (hs : ByteL s) : ∃ l : List Int, ByteL l ∧ l.length = s.length ∧ backL l (cycL (lfL l)) = s := by
  have hp : ((allW s.length).map fun l => backL l (cycL (lfL l))).Perm (allW s.length) := by
    refine perm_all ?_ (fun x hx => ?_) (by simp)
    · refine List.pairwise_map.2 (List.Pairwise.imp_of_mem (fun {a b} ha hb hab e => ?_) (allW_nodup _))
      have ha := mem_allW.1 ha
      have hb := mem_allW.1 hb
      exact hab (back_inj ha.2 hb.2 (by omega) e)
    · obtain ⟨l, hl, rfl⟩ := List.mem_map.1 hx
      have hl := mem_allW.1 hl
      exact mem_allW.2 ⟨by rw [backL_len, cycL_all (lfL_perm hl.2), lfL_len, hl.1], backL_byt hl.2 _⟩
  obtain ⟨l, hl, e⟩ := List.mem_map.1 (hp.symm.subset (mem_allW.2 ⟨rfl, hs⟩))
  have hl := mem_allW.1 hl
  exact ⟨l, hl.2, hl.1, e⟩
end Go.Pure

/-! ## Q38 -/
namespace Go.Pure
open Go Go.Eng
def ER (w : List Int) : List (Nat → Int) := (List.range w.length).map fun j => rot w j
def EW (ws : List (List Int)) : List (Nat → Int) := ws.flatMap ER
theorem tlist_EW (ws : List (List Int)) : ∀ k : Nat, k ≤ ws.length → (tlist ws k).map (tw ws) = EW (ws.take k)
  | 0, _ => rfl
  | k + 1, hk => by
    have ih := tlist_EW ws k (by omega)
    rw [tlist, List.map_append, ih, List.take_add_one, List.getElem?_eq_getElem (by omega)]
    unfold EW
    rw [List.flatMap_append]
    congr 1
    simp only [Option.toList_some, List.flatMap_cons, List.flatMap_nil, List.append_nil]
    have e : rdl ws (k : Int) = ws[k] := by
      unfold rdl
      rw [Int.toNat_natCast, List.getD_eq_getElem?_getD, List.getElem?_eq_getElem (by omega)]
      rfl
    unfold turnsOf ER
    rw [List.map_map, e]
    refine List.map_congr_left fun j _ => ?_
    show tw ws ((k : Int), (j : Int)) = rot ws[k] j
    rw [tw_om, e]
    rfl
theorem EW_app (a b : List (List Int)) : EW (a ++ b) = EW a ++ EW b := List.flatMap_append
theorem EW_perm {a b : List (List Int)} (h : a.Perm b) : (EW a).Perm (EW b) := h.flatMap_right _
theorem rot_add (u : List Int) (q : Nat) : rot u (q + u.length) = rot u q := by
  rw [← rot_mod (q + u.length), Nat.add_mod_right, rot_mod]
theorem rot_addm (u : List Int) (q k : Nat) : rot u (k * u.length + q) = rot u q := by
  rw [← rot_mod (k * u.length + q), Nat.add_comm, Nat.add_mul_mod_self_right, rot_mod]
theorem ER_turn {w : List Int} {r : Nat} (hr : r ≤ w.length) (hn : 0 < w.length) : (ER (turnS w r)).Perm (ER w) := by
  have hl := turnS_len w r
  have e : ER (turnS w r) = (ER w).drop r ++ (ER w).take r := by
    refine List.ext_getElem (by unfold ER; simp [hl]; omega) fun j h1 h2 => ?_
    unfold ER at h1 h2 ⊢
    rw [List.length_map, List.length_range, hl] at h1
    rw [List.getElem_map, List.getElem_range, rot_rot hr hn]
    rcases Nat.lt_or_ge j (w.length - r) with g | g
    · rw [List.getElem_append_left (by simp; exact g), List.getElem_drop, List.getElem_map, List.getElem_range]
    · rw [List.getElem_append_right (by simp; omega), List.getElem_take, List.getElem_map, List.getElem_range]
      simp only [List.length_drop, List.length_map, List.length_range]
      rw [← rot_add w (j - (w.length - r))]
      congr 1
      omega
  rw [e]
  refine List.perm_append_comm.trans ?_
  rw [List.take_append_drop]
theorem rot_rep {r : List Int} {k : Nat} (hr : 0 < r.length) (hk : 0 < k) (q : Nat) : rot (rep r k) q = rot r q := by
  funext d
  show om (rep r k) (q + d) = om r (q + d)
  exact om_rep hr hk _
theorem ER_rep {r : List Int} {k : Nat} (hr : 0 < r.length) (hk : 0 < k) : ER (rep r k) = EW (List.replicate k r) := by
  have h1 : ∀ m : Nat, (List.range (m * r.length)).map (fun j => rot r j) = EW (List.replicate m r) := fun m => by
    induction m with
    | zero => simp [EW]
    | succ m ih =>
      rw [List.replicate_succ', EW_app, Nat.succ_mul, List.range_add, List.map_append, ih, List.map_map]
      congr 1
      unfold EW ER
      simp only [List.flatMap_cons, List.flatMap_nil, List.append_nil]
      exact List.map_congr_left fun j _ => rot_addm r j m
  rw [← h1 k]
  unfold ER
  rw [rep_length, Int.toNat_natCast]
  exact List.map_congr_left fun j _ => rot_rep hr hk j
/-- The rings' roots, each asx often asx it is there. -/
def expR (rs : List RT) : List (List Int) := rs.flatMap fun r => List.replicate r.2.toNat r.1
def exs (ws : List (List Int)) : List (List Int) := expR (ringS ws)
theorem ER_ring {w : List Int} (hw : 0 < w.length) : (ER w).Perm (EW (List.replicate (ringOf w).2.toNat (ringOf w).1)) := by
  have hb := lrot_bd w
  have hl := lw_len w
  have h1 : (ER (lw w)).Perm (ER w) := by
    have := ER_turn (w := w) (r := (lrot w).toNat) (by omega) hw
    rwa [Int.toNat_of_nonneg hb.1] at this
  have h2 := unring_root (c := lw w) (by omega)
  have ht := times_pos (c := lw w) (by omega)
  have hr := root_len (c := lw w) (by omega)
  have hp := rl_range (u := lw w) (by omega)
  have h3 := ER_rep (r := rootW (lw w)) (k := (timesW (lw w)).toNat) (by omega) (by omega)
  rw [Int.toNat_of_nonneg (by omega), h2] at h3
  rw [h3] at h1
  exact h1.symm
theorem EW_rings : ∀ ws : List (List Int), (EW ws).Perm (EW (expR (ringsOf ws)))
  | [] => .refl _
  | w :: ws => by
    have ih := EW_rings ws
    rw [show w :: ws = [w] ++ ws from rfl, EW_app, ringsOf_append]
    unfold expR
    rw [List.flatMap_append, EW_app]
    refine List.Perm.append ?_ ih
    by_cases h : 0 < w.length
    · have e : ringsOf [w] = [ringOf w] := by unfold ringsOf; simp [h]
      rw [e]
      have := ER_ring h
      unfold EW at this ⊢
      simpa using this
    · have e : ringsOf [w] = [] := by unfold ringsOf; simp [h]
      have e2 : w = [] := List.eq_nil_of_length_eq_zero (by omega)
      rw [e, e2]
      unfold EW ER
      simp
theorem EW_exs (ws : List (List Int)) : (EW ws).Perm (EW (exs ws)) := by
  refine (EW_rings ws).trans (EW_perm ?_)
  unfold exs expR
  exact (ringS_perm ws).symm.flatMap_right _
theorem root_lyn {w : List Int} (hw : 0 < w.length) : LynB (ringOf w).1 = true := by
  have hc : 0 < (lw w).length := by rw [lw_len]; exact hw
  generalize hcd : lw w = c at hc
  have hz : lrot c = 0 := by rw [← hcd]; exact lrot_lw w
  have hle : ∀ q, ¬ Lt (rot c q) (om c) := fun q => by
    have fl := lrot_FL hc
    have := fl.any q
    have e0 : lrotK c c.length = 0 := by
      have : (lrotK c c.length : Int) = 0 := hz
      omega
    rw [e0] at this
    have e1 : rot c 0 = om c := by funext d; show om c (0 + d) = _; rw [Nat.zero_add]
    rwa [e1] at this
  obtain ⟨p, hp, p1, p2, ho, hmin⟩ := rl_spec hc
  have hroot : (ringOf w).1 = c.take p := by
    show rootW (lw w) = _
    rw [hcd]
    unfold rootW
    rw [hp]
    rfl
  rw [hroot]
  have hom : om c = om (c.take p) := funext ho
  generalize hr : c.take p = r at hom
  have hrl : r.length = p := by rw [← hr, List.length_take]; omega
  have hrot : ∀ q, rot c q = rot r q := fun q => by
    funext d
    show om c (q + d) = om r (q + d)
    rw [hom]
  have hlt : ∀ j, 0 < j → j < p → Lt (om r) (rot r j) := fun j j0 hj => by
    rcases lt_tri (om r) (rot r j) with a | a | a
    · exact a
    · exfalso
      have : Per (om c) j := fun i => by
        have := a i
        rw [hom, this]
        show om r (i + j) = om r (j + i)
        rw [Nat.add_comm]
      have := hmin j j0 this
      omega
    · have := hle j
      rw [hrot, hom] at this
      exact absurd a this
  rw [LynB_iff]
  refine ⟨by omega, fun j j0 hj => ?_⟩
  rw [cmpL_neg_iff _ _ (by rw [List.length_drop]; omega)]
  obtain ⟨d, h1, h2⟩ := hlt j j0 (by omega)
  have hdr : ∀ e, lt (r.drop j) e = lt r (j + e) := fun e => by
    unfold lt
    rw [List.getD_eq_getElem?_getD, List.getD_eq_getElem?_getD, List.getElem?_drop]
  have hro : ∀ e, rot r j e = om r (j + e) := fun e => rfl
  rcases Nat.lt_or_ge d (p - j) with g | g
  · refine ⟨d, by rw [List.length_drop]; omega, fun e he => ?_, ?_⟩
    · have := h1 e he
      rw [hro, om_lt (by omega), om_lt (by omega)] at this
      rw [hdr]; exact this
    · rw [hro, om_lt (by omega), om_lt (by omega)] at h2
      rw [hdr]; exact h2
  · exfalso
    have := hle (p - j)
    rw [hrot, hom] at this
    have hper := om_per r
    rw [hrl] at hper
    refine this ⟨d - (p - j), fun i hi => ?_, ?_⟩
    · have h3 := h1 (p - j + i) (by omega)
      rw [hro, show j + (p - j + i) = i + p by omega, hper] at h3
      exact h3
    · have h3 := h2
      rw [hro, show j + d = (d - (p - j)) + p by omega, hper] at h3
      show om r (p - j + (d - (p - j))) < om r (d - (p - j))
      rw [show p - j + (d - (p - j)) = d by omega]
      exact h3
theorem cmpL_split : ∀ a b : List Int, cmpL a b < 0 → (∃ d, d < a.length ∧ d < b.length ∧ (∀ e, e < d → lt a e = lt b e) ∧ lt a d < lt b d) ∨ a.length < b.length ∧ ∀ e, e < a.length → lt a e = lt b e
  | [], [], h => by simp [cmpL] at h
  | [], y :: b, _ => .inr ⟨by simp, fun e he => by simp at he⟩
  | _ :: _, [], h => by simp [cmpL] at h
  | x :: a, y :: b, h => by
    rw [cmpL] at h
    split at h
    · rename_i c
      exact .inl ⟨0, by simp, by simp, fun e he => by omega, c⟩
    · split at h
      · omega
      · have hxy : x = y := by omega
        rcases cmpL_split a b h with ⟨d, h1, h2, h3, h4⟩ | ⟨h1, h2⟩
        · refine .inl ⟨d + 1, by simp; omega, by simp; omega, fun e he => ?_, ?_⟩
          · rcases e with _ | e
            · exact hxy
            · exact h3 e (by omega)
          · exact h4
        · refine .inr ⟨by simp; omega, fun e he => ?_⟩
          rcases e with _ | e
          · exact hxy
          · exact h2 e (by simp at he; omega)
theorem lyn_lt {a b : List Int} (ha : 0 < a.length) (hb : LynB b = true) (h : cmpL a b < 0) : Lt (om a) (om b) := by
  rcases cmpL_split a b h with ⟨d, h1, h2, h3, h4⟩ | ⟨h1, h2⟩
  · exact ⟨d, fun e he => by rw [om_lt (by omega), om_lt (by omega)]; exact h3 e he, by rw [om_lt h1, om_lt h2]; exact h4⟩
  · exact longer ha hb h1 fun e he => (h2 e he).symm
theorem lyn_le {a b : List Int} (ha : LynB a = true) (hb : LynB b = true) : cmpL a b ≤ 0 ↔ ¬ Lt (om b) (om a) := by
  have hal := ((LynB_iff a).1 ha).1
  have hbl := ((LynB_iff b).1 hb).1
  constructor
  · intro h
    rcases Int.lt_or_eq_of_le h with g | g
    · exact (lyn_lt hal hb g).asymm
    · rw [(cmpL_eq a b).1 g]; exact fun h => h.asymm h
  · intro h
    rcases Int.lt_or_le 0 (cmpL a b) with g | g
    · exact absurd (lyn_lt hbl ha (by rw [cmpL_anti a b]; omega)) h
    · exact g
theorem rwW_eq (l : List Int) : (cycL (lfL l)).map (wordC l) = (ringW l).reverse := by
  unfold ringW
  rw [List.map_reverse, List.reverse_reverse]
theorem EW_rows {l : List Int} (hl : ByteL l) : (EW (ringW l)).Perm ((iota l.length).map (U l)) := by
  have hlen : (ringW l).length = (cycL (lfL l)).length := by unfold ringW; rw [List.length_map, List.length_reverse]
  have h0 := tlist_EW (ringW l) (ringW l).length (Nat.le_refl _)
  rw [List.take_length] at h0
  rw [← h0, hlen]
  refine (turns_rows hl _ (Nat.le_refl _)).trans ?_
  rw [List.take_of_length_le (by rw [List.length_reverse]; exact Nat.le_refl _)]
  have hc := cycL_perm (lfL_perm hl)
  rw [lfL_len] at hc
  exact (((List.reverse_perm _).flatten).trans hc).map _
/-- Words whose rotations are the rows turn to the bytes. -/
theorem turn_any {l : List Int} (hl : ByteL l) {ws : List (List Int)} {T : List (Int × Int)} (hp : T.Perm (tlist ws ws.length)) (ho : T.Pairwise (ordO ws)) (hE : (EW ws).Perm (EW (ringW l))) : T.map (lastB ws) = l := by
  have h1 : (T.map (tw ws)).Perm ((iota l.length).map (U l)) := by
    refine (hp.map _).trans ?_
    have h0 := tlist_EW ws ws.length (Nat.le_refl _)
    rw [List.take_length] at h0
    rw [h0]
    exact hE.trans (EW_rows hl)
  have s1 : (T.map (tw ws)).Pairwise fun a b => ¬ Lt b a := List.pairwise_map.2 (ho.imp fun {t u} h hlt => by
    rcases h with h | h
    · exact h.asymm hlt
    · exact hlt.not_eq fun i => (h.1 i).symm)
  have s2 : ((iota l.length).map (U l)).Pairwise fun a b => ¬ Lt b a := List.pairwise_map.2 (List.Pairwise.imp_of_mem (fun {i k} hi hk h => by
    have hi := mem_iota.1 hi
    have hk := mem_iota.1 hk
    exact U_le hl hi.1 (Int.le_of_lt h) hk.2) (iota_inc l.length))
  have same : T.map (tw ws) = (iota l.length).map (U l) := h1.eq_of_pairwise (fun a b _ _ x y => by
    rcases lt_tri a b with z | z | z
    · exact absurd z y
    · exact funext z
    · exact absurd z x) s1 s2
  have hTl : T.length = l.length := by
    have := congrArg List.length same
    rwa [List.length_map, List.length_map, iota_len] at this
  refine list_ext_rd (by rw [List.length_map]; exact hTl) fun q q0 q1 => ?_
  rw [List.length_map] at q1
  rw [rd_mapP q0 q1]
  have hv := mem_all.1 (hp.subset (rdp_mem (l := T) q0 q1))
  have hU : tw ws (rdp T q) = U l q := by
    have e1 : (T.map (tw ws))[q.toNat]? = some (tw ws (rdp T q)) := by
      rw [List.getElem?_map, List.getElem?_eq_getElem (by omega)]
      unfold rdp
      rw [List.getD_eq_getElem?_getD, List.getElem?_eq_getElem (by omega)]
      rfl
    have e2 : ((iota l.length).map (U l))[q.toNat]? = some (U l q) := by
      rw [List.getElem?_map, List.getElem?_eq_getElem (by rw [iota_len]; omega)]
      have := rd_iota (n := l.length) q0 (by omega)
      rw [rd_getI q0 (by rw [iota_len]; omega)] at this
      rw [this]
      rfl
    rw [same, e2] at e1
    exact (Option.some.inj e1).symm
  obtain ⟨m, m0, hm⟩ := row_round hl q0 (by omega : q < l.length)
  obtain ⟨a1, a2, a3, a4⟩ := hv
  have hw0 : 0 < (rdl ws (rdp T q).1).length := by omega
  generalize hwl : (rdl ws (rdp T q).1).length = wl at hw0 a4
  have hlast : U l q (m * wl - 1) = rd l q := U_last hm m0 hw0
  rw [← hlast, ← hU]
  have hpos : 0 < m * wl := Nat.mul_pos m0 hw0
  unfold lastB tw rd
  rw [hwl]
  congr 1
  obtain ⟨j, hj⟩ : ∃ j : Nat, (rdp T q).2 = j := ⟨(rdp T q).2.toNat, by omega⟩
  rw [hj, Int.toNat_natCast, show (j : Int) + (wl : Int) - 1 = ((j + wl - 1 : Nat) : Int) by omega, ← Int.natCast_emod, Int.toNat_natCast]
  have e : j + (m * wl - 1) = (j + wl - 1) + wl * (m - 1) := by
    obtain ⟨m', rfl⟩ : ∃ m', m = m' + 1 := ⟨m - 1, by omega⟩
    rw [Nat.succ_mul, Nat.add_sub_cancel, Nat.mul_comm wl m']
    omega
  rw [e, Nat.add_mul_mod_self_left]
theorem exs_lyn {ws : List (List Int)} : ∀ v ∈ exs ws, LynB v = true := fun v hv => by
  obtain ⟨r, hr, h⟩ := List.mem_flatMap.1 hv
  obtain ⟨_, rfl⟩ := List.mem_replicate.1 h
  obtain ⟨w, _, hw, rfl⟩ := mem_ringS hr
  exact root_lyn hw
theorem expR_sorted : ∀ {rs : List RT}, rs.Pairwise (fun a b => kcmp a b ≤ 0) → (expR rs).Pairwise fun a b => cmpL a b ≤ 0
  | [], _ => .nil
  | r :: rs, h => by
    obtain ⟨h1, h2⟩ := List.pairwise_cons.1 h
    have ih := expR_sorted h2
    show (List.replicate r.2.toNat r.1 ++ expR rs).Pairwise _
    rw [List.pairwise_append]
    refine ⟨List.pairwise_replicate.2 (.inr (by rw [(cmpL_eq r.1 r.1).2 rfl]; omega)), ih, fun a ha b hb => ?_⟩
    obtain ⟨_, rfl⟩ := List.mem_replicate.1 ha
    obtain ⟨q, hq, hqb⟩ := List.mem_flatMap.1 hb
    obtain ⟨_, rfl⟩ := List.mem_replicate.1 hqb
    have := kcmp_le_iff.1 (h1 q hq)
    rcases this with g | g
    · omega
    · rw [(cmpL_eq _ _).2 g.1]; omega
theorem exs_bytes {ws : List (List Int)} (hb : ∀ w ∈ ws, ByteL w) : ∀ v ∈ exs ws, ByteL v := fun v hv => by
  obtain ⟨r, hr, h⟩ := List.mem_flatMap.1 hv
  obtain ⟨_, rfl⟩ := List.mem_replicate.1 h
  obtain ⟨w, h1, hw, rfl⟩ := mem_ringS hr
  have h2 := hb w h1
  exact (ByteL.append (h2.drop _) (h2.take _)).take _
/-- Of words turned the rings' words are their roots. -/
theorem turned_ext {ws : List (List Int)} (hb : ∀ w ∈ ws, ByteL w) {T : List (Int × Int)} (hp : T.Perm (tlist ws ws.length)) (ho : T.Pairwise (ordO ws)) : (cycL (lfL (T.map (lastB ws)))).map (wordC (T.map (lastB ws))) = exs ws ∧ ∀ (xs : List (List Int)) (T' : List (Int × Int)), exs xs = exs ws → T'.Perm (tlist xs xs.length) → T'.Pairwise (ordO xs) → T'.map (lastB xs) = T.map (lastB ws) := by
  have hlyn : ∀ v ∈ (exs ws).reverse, LynB v = true := fun v hv => exs_lyn v (List.mem_reverse.1 hv)
  have hdown : (exs ws).reverse.Pairwise fun a b => ¬ Lt (om a) (om b) := List.pairwise_reverse.2 (List.Pairwise.imp_of_mem (fun {a b} ha hb h => (lyn_le (exs_lyn a ha) (exs_lyn b hb)).1 h) (expR_sorted (ringS_sorted ws)))
  have hbs : ByteL (exs ws).reverse.flatten := fun x hx => by
    obtain ⟨v, hv, hxv⟩ := List.mem_flatten.1 hx
    exact exs_bytes hb v (List.mem_reverse.1 hv) x hxv
  have hbw := bws_words hlyn hdown
  obtain ⟨l, hl, _, hback⟩ := back_onto hbs
  have hrw : ringW l = (exs ws).reverse := by rw [← bws_back hl, hback, hbw]
  have hE : ∀ xs : List (List Int), exs xs = exs ws → (EW xs).Perm (EW (ringW l)) := fun xs e => by
    refine (EW_exs xs).trans ?_
    rw [hrw, e]
    exact EW_perm (List.reverse_perm _).symm
  have hT := turn_any hl hp ho (hE ws rfl)
  rw [hT]
  exact ⟨by rw [rwW_eq, hrw, List.reverse_reverse], fun xs T' e hp' ho' => turn_any hl hp' ho' (hE xs e)⟩
end Go.Pure

/-! ## Q39 -/
namespace Go.Pure
open Go Go.Eng
def backE : List (List Int) → List Int → Int → List Int → Option (List (List Int))
  | all, _, _, [] => if 0 < all.length then none else some []
  | all, last, many, n :: ts => if n < 1 ∨ (all.length : Int) < n then none else if rdl all (n - 1) ≠ rdl all 0 ∨ last = rdl all 0 ∧ n < many then none else (backE (all.drop n.toNat) (rdl all 0) n ts).map fun p => rep (rdl all 0) n :: p
def refB : List (List Int) → List Int → Option (List (List Int) × List (List Int))
  | all, [] => some ([], all)
  | all, n :: ts => if n < 1 ∨ (all.length : Int) < n then none else (refB (all.drop n.toNat) ts).map fun p => ((all.take n.toNat).flatten :: p.1, p.2)
theorem rdl_rep_app {n : Nat} {r : List Int} {e : List (List Int)} {i : Int} (h0 : 0 ≤ i) (h1 : i < n) : rdl (List.replicate n r ++ e) i = r := by
  unfold rdl
  rw [List.getD_eq_getElem?_getD, List.getElem?_append_left (by rw [List.length_replicate]; omega), List.getElem?_replicate, if_pos (by omega)]
  rfl
theorem expR_cons (r : RT) (rs : List RT) : expR (r :: rs) = List.replicate r.2.toNat r.1 ++ expR rs := rfl
theorem exp_back : ∀ {rs : List RT} {last : List Int} {many : Int}, rs.Pairwise (fun a b => kcmp a b ≤ 0) → (∀ r ∈ rs, 1 ≤ r.2) → (∀ r ∈ rs, last = r.1 → many ≤ r.2) → backE (expR rs) last many (rs.map Prod.snd) = some (rs.map unring)
  | [], _, _, _, _, _ => rfl
  | r :: rs, last, many, hs, h1, hl => by
    obtain ⟨s1, s2⟩ := List.pairwise_cons.1 hs
    have hr := h1 r (.head _)
    rw [expR_cons, List.map_cons, backE]
    have hlen : (List.replicate r.2.toNat r.1 ++ expR rs).length = r.2.toNat + (expR rs).length := by simp
    rw [if_neg (by omega), rdl_rep_app (by omega) (by omega), rdl_rep_app (by omega) (by omega)]
    rw [if_neg (by
      rintro (h | ⟨h, h2⟩)
      · exact h rfl
      · have := hl r (.head _) h; omega)]
    rw [List.drop_left' (by simp), exp_back s2 (fun q hq => h1 q (.tail _ hq)) (fun q hq e => by
      have := kcmp_le_iff.1 (s1 q hq)
      rcases this with g | g
      · rw [(cmpL_eq r.1 q.1).2 e] at g; omega
      · exact g.2)]
    rfl
theorem refB_exp : ∀ {rs : List RT}, (∀ r ∈ rs, 1 ≤ r.2) → refB (expR rs) (rs.map Prod.snd) = some (rs.map unring, [])
  | [], _ => rfl
  | r :: rs, h1 => by
    have hr := h1 r (.head _)
    rw [expR_cons, List.map_cons, refB]
    have hlen : (List.replicate r.2.toNat r.1 ++ expR rs).length = r.2.toNat + (expR rs).length := by simp
    rw [if_neg (by omega), List.drop_left' (by simp), refB_exp (fun q hq => h1 q (.tail _ hq)), List.take_left' (by simp)]
    rfl
theorem back_exp : ∀ {ts : List Int} {all ws : List (List Int)} {last : List Int} {many : Int}, all.Pairwise (fun a b => cmpL a b ≤ 0) → (∀ a ∈ all, cmpL last a ≤ 0) → backE all last many ts = some ws → ∃ rs : List RT, all = expR rs ∧ ts = rs.map Prod.snd ∧ ws = rs.map unring ∧ (∀ r ∈ rs, 1 ≤ r.2) ∧ rs.Pairwise (fun a b => kcmp a b ≤ 0) ∧ ∀ r ∈ rs, kcmp (last, many) r ≤ 0
  | [], all, ws, last, many, _, _, h => by
    rw [backE] at h
    split at h
    · cases h
    · rename_i c
      obtain rfl := Option.some.inj h
      obtain rfl := List.eq_nil_of_length_eq_zero (show all.length = 0 by omega)
      refine ⟨[], rfl, rfl, ?_, ?_, List.Pairwise.nil, ?_⟩
      · rfl
      · intro r hr; cases hr
      · intro r hr; cases hr
  | n :: ts, all, ws, last, many, hs, hl, h => by
    rw [backE] at h
    split at h
    · cases h
    rename_i c1
    split at h
    · cases h
    rename_i c2
    obtain ⟨ws', h', rfl⟩ := Option.map_eq_some_iff.1 h
    have hg : ∀ i : Int, 0 ≤ i → i < all.length → rdl all i = all.getD i.toNat [] := fun i _ _ => rfl
    have hroot : rdl all 0 ∈ all := by
      unfold rdl
      rw [List.getD_eq_getElem?_getD, List.getElem?_eq_getElem (by omega)]
      exact List.getElem_mem _
    have hge : ∀ i, (hi : i < all.length) → cmpL (rdl all 0) all[i] ≤ 0 := fun i hi => by
      have e0 : rdl all 0 = all[0]'(by omega) := by
        unfold rdl
        rw [List.getD_eq_getElem?_getD, List.getElem?_eq_getElem (by omega)]
        rfl
      rw [e0]
      rcases Nat.eq_zero_or_pos i with z | z
      · subst z; rw [(cmpL_eq _ _).2 rfl]; omega
      · exact List.pairwise_iff_getElem.1 hs 0 i (by omega) hi z
    have hd : (all.drop n.toNat).Pairwise fun a b => cmpL a b ≤ 0 := hs.sublist (List.drop_sublist _ _)
    have hd2 : ∀ a ∈ all.drop n.toNat, cmpL (rdl all 0) a ≤ 0 := fun a ha => by
      obtain ⟨i, hi, rfl⟩ := List.mem_iff_getElem.1 (List.mem_of_mem_drop ha)
      exact hge i hi
    obtain ⟨rs, e1, e2, e3, e4, e5, e6⟩ := back_exp hd hd2 h'
    have hblock : all.take n.toNat = List.replicate n.toNat (rdl all 0) := by
      refine List.ext_getElem (by rw [List.length_take, List.length_replicate]; omega) fun i h1 h2 => ?_
      rw [List.length_take] at h1
      rw [List.getElem_take, List.getElem_replicate]
      have a1 := hge i (by omega)
      have eN : rdl all (n - 1) = all[(n - 1).toNat]'(by omega) := by
        unfold rdl
        rw [List.getD_eq_getElem?_getD, List.getElem?_eq_getElem (by omega)]
        rfl
      have hq : rdl all (n - 1) = rdl all 0 := by
        rcases Classical.em (rdl all (n - 1) = rdl all 0) with g | g
        · exact g
        · exact absurd (.inl g) c2
      have a2 : cmpL all[i] (rdl all 0) ≤ 0 := by
        rw [← hq, eN]
        rcases Nat.lt_or_ge i (n - 1).toNat with g | g
        · exact List.pairwise_iff_getElem.1 hs i (n - 1).toNat (by omega) (by omega) g
        · have : i = (n - 1).toNat := by omega
          subst this
          rw [(cmpL_eq _ _).2 rfl]; omega
      rw [cmpL_anti (rdl all 0)] at a2
      exact ((cmpL_eq _ _).1 (by omega)).symm
    have hk : kcmp (last, many) (rdl all 0, n) ≤ 0 := by
      rw [kcmp_le_iff]
      have := hl _ hroot
      rcases Int.lt_or_eq_of_le this with g | g
      · exact .inl g
      · refine .inr ⟨(cmpL_eq _ _).1 g, ?_⟩
        rcases Int.lt_or_le n many with q | q
        · exact absurd (.inr ⟨(cmpL_eq _ _).1 g, q⟩) c2
        · exact q
    refine ⟨(rdl all 0, n) :: rs, ?_, by rw [e2]; rfl, by rw [e3]; rfl, fun r hr => ?_, List.pairwise_cons.2 ⟨e6, e5⟩, fun r hr => ?_⟩
    · rw [expR_cons, ← e1, ← hblock, List.take_append_drop]
    · rcases List.mem_cons.1 hr with rfl | hr
      · show 1 ≤ n; omega
      · exact e4 r hr
    · rcases List.mem_cons.1 hr with rfl | hr
      · exact hk
      · exact kcmp_le _ _ _ hk (e6 r hr)
theorem refB_none : ∀ {ts : List Int} {all : List (List Int)} {last : List Int} {many : Int}, refB all ts = none → backE all last many ts = none
  | [], _, _, _, h => by cases h
  | n :: ts, all, last, many, h => by
    rw [refB] at h
    rw [backE]
    split
    · rfl
    · rename_i c
      rw [if_neg c] at h
      split
      · rfl
      · have : refB (all.drop n.toNat) ts = none := by
          cases e : refB (all.drop n.toNat) ts with
          | none => rfl
          | some p => rw [e] at h; cases h
        rw [refB_none this]
        rfl
theorem lyn_least {r : List Int} (hL : LynB r = true) (q : Nat) : (q % r.length ≠ 0 → Lt (om r) (rot r q)) ∧ (q % r.length = 0 → rot r q = om r) := by
  have hp := ((LynB_iff r).1 hL).1
  constructor
  · intro h
    have hm := Nat.mod_lt q hp
    obtain ⟨d, h1, h2, h3⟩ := LynB_at hL (r := q % r.length) (by omega) hm
    rw [← rot_mod q]
    refine ⟨d, fun e he => ?_, ?_⟩
    · show om r e = om r (q % r.length + e)
      rw [om_lt (by omega), om_lt (by omega)]
      exact h2 e he
    · show om r d < om r (q % r.length + d)
      rw [om_lt (by omega), om_lt (by omega)]
      exact h3
  · intro h
    rw [← rot_mod q, h]
    funext d
    show om r (0 + d) = om r d
    rw [Nat.zero_add]
theorem ring_lynrep {r : List Int} (hL : LynB r = true) {n : Int} (hn : 1 ≤ n) : ringOf (rep r n) = (r, n) := by
  have hp := ((LynB_iff r).1 hL).1
  obtain ⟨k, hk⟩ : ∃ k : Nat, n = k := ⟨n.toNat, by omega⟩
  subst hk
  have hk0 : 0 < k := by omega
  have hlen : (rep r k).length = k * r.length := by rw [rep_length, Int.toNat_natCast]
  have hl0 : 0 < (rep r k).length := by rw [hlen]; exact Nat.mul_pos hk0 hp
  have fl : FL (rep r k) 0 := ⟨hl0, fun q _ => by
    rw [rot_rep hp hk0, rot_rep hp hk0]
    have e0 : rot r 0 = om r := (lyn_least hL 0).2 (Nat.zero_mod _)
    rw [e0]
    rcases Nat.eq_zero_or_pos (q % r.length) with z | z
    · rw [(lyn_least hL q).2 z]; exact fun h => h.asymm h
    · exact ((lyn_least hL q).1 (by omega)).asymm, fun q hq => by omega⟩
  have hz : lrot (rep r k) = 0 := by
    have := (lrot_FL hl0).one fl
    unfold lrot
    omega
  have hlw : lw (rep r k) = rep r k := by
    show turnS _ (lrot _) = _
    rw [hz, turnS_zero]
  have hom : om (rep r k) = om r := funext fun i => om_rep hp hk0 i
  obtain ⟨m, e, m1, m2, ho, hmin⟩ := rl_spec hl0
  have hm : m = r.length := by
    have h1 := hmin r.length (by omega) (by rw [hom]; exact om_per r)
    rcases Nat.lt_or_ge m r.length with g | g
    · exfalso
      have hper : Per (om r) m := by
        have hp2 := om_per ((rep r k).take m)
        rw [List.length_take, Nat.min_eq_left m2] at hp2
        intro i
        have := hp2 i
        rw [← ho, ← ho, hom] at this
        exact this
      have h2 := (lyn_least hL m).1 (by rw [Nat.mod_eq_of_lt g]; omega)
      refine h2.not_eq fun i => ?_
      show om r i = om r (m + i)
      rw [Nat.add_comm]
      exact (hper i).symm
    · omega
  have hrl : rl (rep r k) = r.length := by rw [e, hm]
  unfold ringOf rootW timesW
  rw [hlw, hrl, hlen]
  refine Prod.ext ?_ ?_
  · show (rep r k).take ((r.length : Int).toNat) = r
    rw [Int.toNat_natCast]
    obtain ⟨k', rfl⟩ : ∃ k', k = k' + 1 := ⟨k - 1, by omega⟩
    unfold rep
    rw [Int.toNat_natCast, List.replicate_succ, List.flatten_cons, List.take_left]
  · show ((k * r.length : Nat) : Int) / (r.length : Int) = k
    rw [Int.natCast_mul]
    exact Int.mul_ediv_cancel _ (by omega)
theorem rings_unring {rs : List RT} (hL : ∀ r ∈ rs, LynB r.1 = true) (h1 : ∀ r ∈ rs, 1 ≤ r.2) : ringsOf (rs.map unring) = rs := by
  induction rs with
  | nil => rfl
  | cons r rs ih =>
    have hr := h1 r (.head _)
    have hl := hL r (.head _)
    have hp := ((LynB_iff r.1).1 hl).1
    have e0 : 0 < (unring r).length := by
      unfold unring
      rw [rep_length]
      exact Nat.mul_pos (by omega) hp
    have e : ringsOf [unring r] = [r] := by
      have : ringOf (unring r) = r := ring_lynrep hl hr
      unfold ringsOf
      simp [e0, this]
    rw [List.map_cons, show unring r :: rs.map unring = [unring r] ++ rs.map unring from rfl, ringsOf_append, e, ih (fun q hq => hL q (.tail _ hq)) (fun q hq => h1 q (.tail _ hq))]
    rfl
def ExtR (ws : List (List Int)) (L TS : List Int) (e : Int) : Prop :=
  (e = 2 ∧ (1000 < ws.length ∨ 100000 < ws.flatten.length) ∧ L = [] ∧ TS = []) ∨
  (¬ (1000 < ws.length ∨ 100000 < ws.flatten.length) ∧ e = 1 ∧ (∃ w ∈ ws, w.length = 0) ∧ L = [] ∧ TS = []) ∨
  (¬ (1000 < ws.length ∨ 100000 < ws.flatten.length) ∧ e = 0 ∧ (∀ w ∈ ws, 0 < w.length) ∧ (∃ T : List (Int × Int), T.Perm (tlist ws ws.length) ∧ T.Pairwise (ordO ws) ∧ L = T.map (lastB ws)) ∧ TS = (ringS ws).map Prod.snd)
theorem ExtR.same {ws xs : List (List Int)} {L L' TS TS' : List Int} {e e' : Int} (h : ExtR ws L TS e) (h' : ExtR xs L' TS' e') (hb : ∀ w ∈ ws, ByteL w) (hl : xs.length = ws.length) (hf : xs.flatten.length = ws.flatten.length) (hz : (∃ w ∈ xs, w.length = 0) ↔ ∃ w ∈ ws, w.length = 0) (hr : (ringsOf xs).Perm (ringsOf ws)) : e' = e ∧ L' = L ∧ TS' = TS := by
  have hS := ringS_congr hr
  unfold ExtR at h'
  rw [hl, hf, hz, hS] at h'
  rcases h with ⟨rfl, c, rfl, rfl⟩ | ⟨c, rfl, d, rfl, rfl⟩ | ⟨c, rfl, d, ⟨T, hp, ho, rfl⟩, rfl⟩
  · rcases h' with ⟨rfl, _, rfl, rfl⟩ | ⟨c', _⟩ | ⟨c', _⟩
    · exact ⟨rfl, rfl, rfl⟩
    · exact absurd c c'
    · exact absurd c c'
  · rcases h' with ⟨_, c', _⟩ | ⟨_, rfl, _, rfl, rfl⟩ | ⟨_, _, d', _⟩
    · exact absurd c' c
    · exact ⟨rfl, rfl, rfl⟩
    · have d2 := hz.2 d
      obtain ⟨w, hw, e⟩ := d2
      have := d' w hw
      omega
  · rcases h' with ⟨_, c', _⟩ | ⟨_, _, d', _⟩ | ⟨_, rfl, _, ⟨T', hp', ho', rfl⟩, rfl⟩
    · exact absurd c' c
    · obtain ⟨w, hw, e⟩ := d'
      have := d w hw
      omega
    · refine ⟨rfl, (turned_ext hb hp ho).2 xs T' (by unfold exs; rw [hS]) (by rw [hl] at *; exact hp') ho', rfl⟩
theorem ExtR.one {ws : List (List Int)} {L L' TS TS' : List Int} {e e' : Int} (h : ExtR ws L TS e) (h' : ExtR ws L' TS' e') (hb : ∀ w ∈ ws, ByteL w) : e' = e ∧ L' = L ∧ TS' = TS := h.same h' hb rfl rfl Iff.rfl (.refl _)
theorem wordC_lyn {l : List Int} (hl : ByteL l) : ∀ v ∈ (cycL (lfL l)).map (wordC l), LynB v = true := fun v hv => by
  rw [rwW_eq] at hv
  exact ringW_lyn hl v (List.mem_reverse.1 hv)
theorem wordC_up {l : List Int} (hl : ByteL l) : ((cycL (lfL l)).map (wordC l)).Pairwise fun a b => cmpL a b ≤ 0 := by
  rw [rwW_eq]
  refine List.pairwise_reverse.2 (List.Pairwise.imp_of_mem (fun {a b} ha hb h => ?_) (ringW_down hl))
  exact (lyn_le (ringW_lyn hl b hb) (ringW_lyn hl a ha)).2 h
theorem cycW_flat {l : List Int} (hl : ByteL l) : ((cycL (lfL l)).map (wordC l)).flatten.length = l.length := by
  have hc := cycL_perm (lfL_perm hl)
  rw [lfL_len] at hc
  have h1 := hc.length_eq
  rw [iota_len] at h1
  have h2 : ∀ cs : List (List Int), (cs.map (wordC l)).flatten.length = cs.flatten.length := fun cs => by
    induction cs with
    | nil => rfl
    | cons c cs ih => rw [List.map_cons, List.flatten_cons, List.flatten_cons, List.length_append, List.length_append, ih, wordC_len]
  rw [h2, h1]
theorem unring_flat (rs : List RT) : (rs.map unring).flatten = (expR rs).flatten := by
  induction rs with
  | nil => rfl
  | cons r rs ih =>
    rw [List.map_cons, List.flatten_cons, expR_cons, List.flatten_append, ih]
    rfl
/-- The document's way back answers asx the program's. -/
theorem ref_back {l times : List Int} {out rest : List (List Int)} {m t : List Int} {e : Int} (hl : ByteL l) (hN : l.length ≤ 100000) (ht : times.length ≤ 1000) (hr : refB ((cycL (lfL l)).map (wordC l)) times = some (out, rest)) (hx : ExtR out m t e) (hob : ∀ w ∈ out, ByteL w) :
    backE ((cycL (lfL l)).map (wordC l)) [] 0 times = if rest.length = 0 ∧ e = 0 ∧ m = l ∧ t = times then some out else none := by
  have hlyn := wordC_lyn hl
  have hup := wordC_up hl
  have hflat := cycW_flat hl
  have hrw := rwW_eq l
  obtain ⟨all, hall⟩ : ∃ all, (cycL (lfL l)).map (wordC l) = all := ⟨_, rfl⟩
  rw [hall] at hlyn hup hflat hr hrw ⊢
  split
  · rename_i c
    obtain ⟨_, c1, c2, c3⟩ := c
    rcases hx with ⟨h, _⟩ | ⟨_, h, _⟩ | ⟨_, _, hne, ⟨T, hp, ho, hm⟩, hts⟩
    · omega
    · omega
    · have hA := (turned_ext hob hp ho).1
      rw [← hm, c2, hall] at hA
      have h1 : ∀ r ∈ ringS out, 1 ≤ r.2 ∧ 0 < r.1.length := fun r hr' => by
        obtain ⟨w, _, hw, rfl⟩ := mem_ringS hr'
        have hc : 0 < (lw w).length := by rw [lw_len]; exact hw
        have a1 := times_pos hc
        have a2 := root_len hc
        have a3 := rl_range hc
        exact ⟨by show 1 ≤ timesW (lw w); omega, by show 0 < (rootW (lw w)).length; omega⟩
      have hE : all = expR (ringS out) := hA
      rw [← c3, hts, hE] at hr ⊢
      rw [refB_exp fun r h => (h1 r h).1] at hr
      have e1 := congrArg Prod.fst (Option.some.inj hr)
      have e2 : (ringS out).map unring = out := e1
      rw [exp_back (ringS_sorted out) (fun r h => (h1 r h).1) (fun r h e => by have := (h1 r h).2; rw [← e] at this; simp at this), e2]
  · rename_i c
    cases hb : backE all [] 0 times with
    | none => rfl
    | some ws' =>
      exfalso
      obtain ⟨rs, e1, e2, e3, e4, e5, _⟩ := back_exp hup (fun a _ => by cases a <;> simp [cmpL]) hb
      have hLr : ∀ r ∈ rs, LynB r.1 = true := fun r h => hlyn _ (by
        rw [e1]
        refine List.mem_flatMap.2 ⟨r, h, List.mem_replicate.2 ⟨by have := e4 r h; omega, rfl⟩⟩)
      rw [e1, e2, refB_exp e4] at hr
      have hout : out = rs.map unring := (congrArg Prod.fst (Option.some.inj hr)).symm
      have hrest : rest = [] := (congrArg Prod.snd (Option.some.inj hr)).symm
      have hrings : ringsOf out = rs := by rw [hout]; exact rings_unring hLr e4
      have hS : rs = ringS out := ringS_one (by rw [hrings]) e5
      have hfl : out.flatten.length = l.length := by rw [hout, unring_flat, ← e1, hflat]
      have hol : out.length = times.length := by rw [hout, e2, List.length_map, List.length_map]
      rcases hx with ⟨_, h, _⟩ | ⟨_, _, ⟨w, hw, hz⟩, _⟩ | ⟨_, he, hne, ⟨T, hp, ho, hm⟩, hts⟩
      · omega
      · rw [hout] at hw
        obtain ⟨r, hr', rfl⟩ := List.mem_map.1 hw
        have a1 := ((LynB_iff r.1).1 (hLr r hr')).1
        have a2 := e4 r hr'
        unfold unring at hz
        rw [rep_length] at hz
        have := Nat.mul_pos (show 0 < r.2.toNat by omega) a1
        omega
      · refine c ⟨by rw [hrest]; rfl, he, ?_, by rw [hts, ← hS, e2]⟩
        rw [hm]
        refine turn_any hl hp ho ((EW_exs out).trans ?_)
        unfold exs
        rw [← hS, ← e1, hrw]
        exact EW_perm (List.reverse_perm _)
end Go.Pure

/-! ## E30 -/
namespace Go.Eng
open Go Go.RowKit
section
variable {P : Program} {n : Nd} {B : Nat} {w0 w00 : World} {F : Exit → Act → World → Prop} {L : Env} {R : List Row}
def LF {σ : Type} (F : Exit → Act → World → Prop) (m B : Nat) (w00 w0 : World) (Lx : σ → Env) (Rx : σ → List Row) (K : σ → Prop) : Exit → Act → World → Prop
  | .normal, a, w => ∃ s ds W, K s ∧ Below B w0 W ∧ Gd B w00 ⟨m, ds, none⟩ W ∧ Sat ⟨m, ds, none⟩ (Lx s) a ∧ Hp B W w (Rx s)
  | e, a, w => F e a w
theorem v_loop {σ : Type} {m : Nat} {ds : List Deferred} {c : Code} (Lx : σ → Env) (Rx : σ → List Row) (J : σ → Prop) (μ : σ → Nat) (h0 : Fam B w0 Lx Rx J L R) (hG : Gd B w00 ⟨m, ds, none⟩ w0)
    (round : ∀ s ds W, J s → Below B w0 W → Gd B w00 ⟨m, ds, none⟩ W → V P ⟨m, ds, none⟩ B W c (LF F m B w00 w0 Lx Rx fun y => J y ∧ μ y < μ s) (Lx s) (Rx s)) : V P ⟨m, ds, none⟩ B w0 (.loop c) F L R := by
  intro a w hs hp
  obtain ⟨x0, hJ0, hL0, hR0⟩ := h0
  refine wpIn_loop_ghost (fun k a w => ∃ x ds W, μ x = k ∧ J x ∧ Below B w0 W ∧ Gd B w00 ⟨m, ds, none⟩ W ∧ Sat ⟨m, ds, none⟩ (Lx x) a ∧ Hp B W w (Rx x)) (μ x0) ⟨x0, ds, w0, rfl, hJ0, Below.refl _ _, hG, hs.sub hL0, hR0 w hp⟩ ?_
  rintro k a w ⟨x, ds, W, rfl, hJ, hb, hg, hs, hp⟩
  refine wpIn_mono (round x ds W hJ hb hg a w hs hp) ?_
  intro e a' w' hq
  cases e with
  | normal =>
    obtain ⟨y, ds', W', ⟨hJy, hlt⟩, hb', hg', hs', hp'⟩ := hq
    exact ⟨μ y, hlt, y, ds', W', rfl, hJy, hb', hg', hs', hp'⟩
  | exit id => exact hq
  | goto l => exact hq
  | ret => exact hq
  | panic ch => exact hq
  | outgrown => exact hq
theorem v_again {σ : Type} {m : Nat} {ds : List Deferred} {W : World} {Lx : σ → Env} {Rx : σ → List Row} {K : σ → Prop} (hb : Below B w0 W) (hG : Gd B w00 ⟨m, ds, none⟩ W) (h : Fam B W Lx Rx K L R) : VN ⟨m, ds, none⟩ B W (LF F m B w00 w0 Lx Rx K) L R := fun a w hs hp => by
  obtain ⟨s, hK, hL, hR⟩ := h
  exact ⟨s, ds, W, hK, hb, hG, hs.sub hL, hR w hp⟩
/-- An exit on its way out. -/
def VX (n : Nd) (B : Nat) (w0 : World) (F : Exit → Act → World → Prop) (i : Nat) (L : Env) (R : List Row) : Prop := ∀ a w, Sat n L a → Hp B w0 w R → F (.exit i) a w
theorem v_exit {i : Nat} (h : VX n B w0 F i L R) : (FQ F n B w0).ext i L R := h
theorem v_exL {σ : Type} {m i : Nat} {W : World} {Lx : σ → Env} {Rx : σ → List Row} {K : σ → Prop} (h : VX n B W F i L R) : VX n B W (LF F m B w00 w0 Lx Rx K) i L R := h
theorem v_exB {i : Nat} (h : VN n B w0 F L R) : VX n B w0 (Exit.inBlock i F) i L R := fun a w hs hp => by
  show (if i = i then F .normal a w else F (.exit i) a w)
  rw [if_pos rfl]
  exact h a w hs hp
theorem v_loop7 {σ0 σ1 σ2 σ3 σ4 σ5 σ6 : Type} {m : Nat} {ds : List Deferred} {c : Code} (Lx : σ0 → σ1 → σ2 → σ3 → σ4 → σ5 → σ6 → Env) (Rx : σ0 → σ1 → σ2 → σ3 → σ4 → σ5 → σ6 → List Row) (J : σ0 → σ1 → σ2 → σ3 → σ4 → σ5 → σ6 → Prop) (μ : σ0 → σ1 → σ2 → σ3 → σ4 → σ5 → σ6 → Nat)
    (h0 : ∃ x0 x1 x2 x3 x4 x5 x6, J x0 x1 x2 x3 x4 x5 x6 ∧ Sub (Lx x0 x1 x2 x3 x4 x5 x6) L ∧ ∀ w, Hp B w0 w R → Hp B w0 w (Rx x0 x1 x2 x3 x4 x5 x6)) (hG : Gd B w00 ⟨m, ds, none⟩ w0)
    (round : ∀ x0 x1 x2 x3 x4 x5 x6 ds W, J x0 x1 x2 x3 x4 x5 x6 → Below B w0 W → Gd B w00 ⟨m, ds, none⟩ W → V P ⟨m, ds, none⟩ B W c (LF F m B w00 w0 (fun p : σ0 × σ1 × σ2 × σ3 × σ4 × σ5 × σ6 => Lx p.1 p.2.1 p.2.2.1 p.2.2.2.1 p.2.2.2.2.1 p.2.2.2.2.2.1 p.2.2.2.2.2.2) (fun p => Rx p.1 p.2.1 p.2.2.1 p.2.2.2.1 p.2.2.2.2.1 p.2.2.2.2.2.1 p.2.2.2.2.2.2) (fun p => J p.1 p.2.1 p.2.2.1 p.2.2.2.1 p.2.2.2.2.1 p.2.2.2.2.2.1 p.2.2.2.2.2.2 ∧ μ p.1 p.2.1 p.2.2.1 p.2.2.2.1 p.2.2.2.2.1 p.2.2.2.2.2.1 p.2.2.2.2.2.2 < μ x0 x1 x2 x3 x4 x5 x6)) (Lx x0 x1 x2 x3 x4 x5 x6) (Rx x0 x1 x2 x3 x4 x5 x6)) : V P ⟨m, ds, none⟩ B w0 (.loop c) F L R := by
  obtain ⟨x0, x1, x2, x3, x4, x5, x6, h1, h2, h3⟩ := h0
  exact v_loop (σ := σ0 × σ1 × σ2 × σ3 × σ4 × σ5 × σ6) (fun p => Lx p.1 p.2.1 p.2.2.1 p.2.2.2.1 p.2.2.2.2.1 p.2.2.2.2.2.1 p.2.2.2.2.2.2) (fun p => Rx p.1 p.2.1 p.2.2.1 p.2.2.2.1 p.2.2.2.2.1 p.2.2.2.2.2.1 p.2.2.2.2.2.2) (fun p => J p.1 p.2.1 p.2.2.1 p.2.2.2.1 p.2.2.2.2.1 p.2.2.2.2.2.1 p.2.2.2.2.2.2) (fun p => μ p.1 p.2.1 p.2.2.1 p.2.2.2.1 p.2.2.2.2.1 p.2.2.2.2.2.1 p.2.2.2.2.2.2) ⟨(x0, x1, x2, x3, x4, x5, x6), h1, h2, h3⟩ hG fun p ds W hp hb hg => round p.1 p.2.1 p.2.2.1 p.2.2.2.1 p.2.2.2.2.1 p.2.2.2.2.2.1 p.2.2.2.2.2.2 ds W hp hb hg
theorem v_again7 {σ0 σ1 σ2 σ3 σ4 σ5 σ6 : Type} {m M : Nat} {ds : List Deferred} {W : World} {Lx : σ0 → σ1 → σ2 → σ3 → σ4 → σ5 → σ6 → Env} {Rx : σ0 → σ1 → σ2 → σ3 → σ4 → σ5 → σ6 → List Row} {J : σ0 → σ1 → σ2 → σ3 → σ4 → σ5 → σ6 → Prop} {μ : σ0 → σ1 → σ2 → σ3 → σ4 → σ5 → σ6 → Nat} (hb : Below B w0 W) (hG : Gd B w00 ⟨m, ds, none⟩ W)
    (h : ∃ y0 y1 y2 y3 y4 y5 y6, J y0 y1 y2 y3 y4 y5 y6 ∧ μ y0 y1 y2 y3 y4 y5 y6 < M ∧ Sub (Lx y0 y1 y2 y3 y4 y5 y6) L ∧ ∀ w, Hp B W w R → Hp B W w (Rx y0 y1 y2 y3 y4 y5 y6)) : VN ⟨m, ds, none⟩ B W (LF F m B w00 w0 (fun p : σ0 × σ1 × σ2 × σ3 × σ4 × σ5 × σ6 => Lx p.1 p.2.1 p.2.2.1 p.2.2.2.1 p.2.2.2.2.1 p.2.2.2.2.2.1 p.2.2.2.2.2.2) (fun p => Rx p.1 p.2.1 p.2.2.1 p.2.2.2.1 p.2.2.2.2.1 p.2.2.2.2.2.1 p.2.2.2.2.2.2) (fun p => J p.1 p.2.1 p.2.2.1 p.2.2.2.1 p.2.2.2.2.1 p.2.2.2.2.2.1 p.2.2.2.2.2.2 ∧ μ p.1 p.2.1 p.2.2.1 p.2.2.2.1 p.2.2.2.2.1 p.2.2.2.2.2.1 p.2.2.2.2.2.2 < M)) L R := by
  obtain ⟨y0, y1, y2, y3, y4, y5, y6, g1, g2, g3, g4⟩ := h
  exact v_again hb hG ⟨(y0, y1, y2, y3, y4, y5, y6), ⟨g1, g2⟩, g3, g4⟩
end
end Go.Eng

