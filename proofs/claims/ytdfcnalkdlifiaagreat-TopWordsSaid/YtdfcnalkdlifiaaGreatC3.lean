/- Several texts of our own in one: Q40, E21, E24, E13, K1, Q41, E14, E15, E16, E17, E32, V2, S2, E19. -/
import Derived.RangeFuncRecord
import Derived.RangeFuncSeq
import Derived.RangeFuncCalls
import Derived.RangeFuncKeeps
import Derived.RangeFuncBox
import Derived.RangeFuncNested
import Derived.Stop.BytesEq
import Derived.LoopNIn
import Derived.Shelf.Abstract
import Derived.WalkKit
import Derived.OwnWalkIn
import Derived.TacticsInMore
import Derived.LoopIn
import Derived.Test.YtdfcnalkdlifiaaGreatProg
import Derived.Ground.NamesProg
import Derived.Ground.Names2Prog
import Derived.Shelf.Sort.Plain
import Derived.Shelf.Slices.SearchI
import Derived.Shelf.Slices.In.SortNone
import Derived.Shelf.Slices.Empties
import Derived.Lib.SlKeysI
import Derived.Test.YtdfcnalkdlifiaaGreatC2
/-! ## Q40 -/
namespace Go.Pure
open Go Go.Eng
theorem perm_iff {l m : List Int} (hl : l.Nodup) (hm : m.Nodup) (e : ∀ x, x ∈ l ↔ x ∈ m) : l.Perm m :=
 perm_all hl (fun x h => (e x).1 h) (nodup_len hm fun x h => (e x).2 h)
/-- So many places, r modulo three. -/
def plcK (r k : Nat) : List Int := (List.range k).map fun t : Nat => (r + 3 * t : Int)
theorem plcK_len (r k : Nat) : (plcK r k).length = k := by simp [plcK]
theorem plcK_snoc (r k : Nat) : plcK r (k + 1) = plcK r k ++ [(r + 3 * k : Int)] := by
 unfold plcK
 rw [List.range_succ, List.map_append]
 rfl
/-- All places below n that are r modulo three. -/
def plc (n r : Nat) : List Int := plcK r ((n + 2 - r) / 3)
theorem plc_len (n r : Nat) : (plc n r).length = (n + 2 - r) / 3 := plcK_len _ _
theorem rd_plc {n r : Nat} {t : Int} (h0 : 0 ≤ t) (h : t < (plc n r).length) : rd (plc n r) t = r + 3 * t := by
 rw [plc_len] at h
 unfold plc plcK
 rw [rd_range h0 (by omega)]
 omega
theorem mem_plc {n r : Nat} {x : Int} (hr : r ≤ 2) : x ∈ plc n r ↔ 0 ≤ x ∧ x < n ∧ x % 3 = r := by
 unfold plc plcK
 rw [List.mem_map]
 constructor
 ·rintro ⟨t, ht, rfl⟩
  have := List.mem_range.1 ht
  omega
 ·rintro ⟨h0, h1, h2⟩
  exact ⟨((x - r) / 3).toNat, List.mem_range.2 (by omega), by omega⟩
theorem plc_nodup (n r : Nat) : (plc n r).Nodup := by
 unfold plc plcK
 exact List.pairwise_map.2 (List.nodup_range.imp fun {x y} h hh => h (by omega))
/-- The sample. -/
def smp (n : Nat) : List Int := plc n 1 ++ plc n 2
theorem mem_smp {n : Nat} {x : Int} : x ∈ smp n ↔ 0 ≤ x ∧ x < n ∧ x % 3 ≠ 0 := by
 unfold smp
 rw [List.mem_append, mem_plc (by omega), mem_plc (by omega)]
 omega
theorem smp_len (n : Nat) : (smp n).length = (n + 1) / 3 + n / 3 := by
 unfold smp
 rw [List.length_append, plc_len, plc_len]
 omega
theorem smp_nodup (n : Nat) : (smp n).Nodup := by
 unfold smp
 refine List.nodup_append.2 ⟨plc_nodup _ _, plc_nodup _ _, fun a ha b hb e => ?_⟩
 rw [mem_plc (by omega)] at ha hb
 omega
theorem smp_all (n : Nat) : (smp n ++ plc n 0).Perm (iota n) := by
 refine perm_iff (List.nodup_append.2 ⟨smp_nodup _, plc_nodup _ _, fun a ha b hb e => ?_⟩) (iota_nodup n) fun x => ?_
 ·rw [mem_smp] at ha
  rw [mem_plc (by omega)] at hb
  omega
 ·rw [List.mem_append, mem_smp, mem_plc (by omega), mem_iota]
  omega
/-- A number, and one; nought behind the end. -/
def keyF (s : List Int) (i : Int) : Int := if (s.length : Int) ≤ i then 0 else rd s i + 1
def keysL (s : List Int) (b : Int) : List Int := (List.range s.length).map fun i : Nat => keyF s ((i : Int) + b)
theorem keysL_len (s : List Int) (b : Int) : (keysL s b).length = s.length := by simp [keysL]
theorem rd_keysL {s : List Int} {b i : Int} (h0 : 0 ≤ i) (h : i < s.length) : rd (keysL s b) i = keyF s (i + b) := by
 unfold keysL
 rw [rd_range h0 (by omega)]
 congr 1
 omega
theorem lo_nn : ∀ {s : List Int}, Nn s → lo s = 0
 | [], _ => rfl
 | a :: s, h => by
  have := lo_nn (s := s) fun x hx => h x (List.mem_cons_of_mem _ hx)
  have ha := h a (by simp)
  unfold lo at this ⊢
  rw [List.foldr_cons, this]
  omega
theorem eu_key {s : List Int} (hs : Nn s) (i d : Nat) : eu s i d = keyF s ((i + d : Nat) : Int) := by
 unfold eu keyF
 rw [lo_nn hs]
 by_cases h : i + d < s.length
 ·rw [if_pos h, if_neg (by omega)]
  unfold rd lt
  rw [Int.toNat_natCast]
  omega
 ·rw [if_neg h, if_pos (by omega)]
theorem keyF_bd {s : List Int} {k : Int} (hs : ∀ x ∈ s, 0 ≤ x ∧ x < k) (hk : 0 ≤ k) {i : Int} (h0 : 0 ≤ i) : 0 ≤ keyF s i ∧ keyF s i < k + 1 := by
 unfold keyF
 split
 ·omega
 ·have := hs _ (rd_mem (L := s) h0 (by omega))
  omega
theorem keysL_bd {s : List Int} {k b : Int} (hs : ∀ x ∈ s, 0 ≤ x ∧ x < k) (hk : 0 ≤ k) (hb : 0 ≤ b) : ∀ x ∈ keysL s b, 0 ≤ x ∧ x < k + 1 := by
 intro x hx
 obtain ⟨i, _, rfl⟩ := List.mem_map.1 hx
 exact keyF_bd hs hk (by omega)
theorem eu_nn (s : List Int) (i d : Nat) : 0 ≤ eu s i d := by
 rcases Nat.lt_or_ge (i + d) s.length with h | h
 ·exact Int.le_of_lt (eu_pos h)
 ·rw [eu_zero h]; exact Int.le_refl 0
/-- Less by some first number. -/
def LtO (U V : Nat → Int) : Prop := ∃ k, (∀ i, i < k → U i = V i) ∧ U k < V k
theorem ltO_of {m : Nat} {U V : Nat → Int} : LtH m U V → LtO U V := fun ⟨k, _, h1, h2⟩ => ⟨k, h1, h2⟩
theorem ltO_ord {s : List Int} {x y : Nat} : LtO (eu s x) (eu s y) ↔ LtH s.length (eu s x) (eu s y) := by
 refine ⟨fun ⟨k, h1, h2⟩ => ⟨k, ?_, h1, h2⟩, ltO_of⟩
 have := eu_nn s x k
 rcases Nat.lt_or_ge (y + k) s.length with h | h
 ·omega
 ·rw [eu_zero h] at h2; omega
theorem ordE_O {s : List Int} {x y : Int} : ordE s x y ↔ LtO (eu s x.toNat) (eu s y.toNat) := ltO_ord.symm
theorem ltO_asymm {U V : Nat → Int} (h : LtO U V) : ¬ LtO V U := by
 rintro ⟨k', h1', h2'⟩
 obtain ⟨k, h1, h2⟩ := h
 rcases Nat.lt_trichotomy k k' with a | a | a
 ·have := h1' k a; omega
 ·subst a; omega
 ·have := h1 k' a; omega
theorem ltO_shift {U V : Nat → Int} {m : Nat} (e : EqH m U V) : LtO (fun d => U (m + d)) (fun d => V (m + d)) ↔ LtO U V := by
 constructor
 ·rintro ⟨k, h1, h2⟩
  refine ⟨m + k, fun i hi => ?_, h2⟩
  rcases Nat.lt_or_ge i m with a | a
  ·exact e i a
  ·have := h1 (i - m) (by omega)
   simp only [show m + (i - m) = i by omega] at this
   exact this
 ·rintro ⟨k, h1, h2⟩
  have hk : m ≤ k := by
   rcases Nat.lt_or_ge k m with a | a
   ·have := e k a; omega
   ·exact a
  refine ⟨k - m, fun i hi => h1 (m + i) (by omega), ?_⟩
  simp only [show m + (k - m) = k by omega]
  exact h2
theorem eu_shift (s : List Int) (i m : Nat) : (fun d => eu s i (m + d)) = eu s (i + m) := funext fun d => (eu_add s i m d).symm
theorem ltO_eu {s : List Int} {i j m : Nat} (e : EqH m (eu s i) (eu s j)) : LtO (eu s (i + m)) (eu s (j + m)) ↔ LtO (eu s i) (eu s j) := by
 rw [← eu_shift, ← eu_shift]
 exact ltO_shift e
/-- Two places that have so many alike are so far from the end. -/
theorem eq_room {s : List Int} {m i j : Nat} (hi : i < s.length) (hj : j < s.length) (hij : i ≠ j) (e : EqH m (eu s i) (eu s j)) : j + m ≤ s.length := by
 refine Nat.not_lt.1 fun h => ?_
 have e1 := e (s.length - j) (by omega)
 rw [eu_zero (s := s) (i := j) (by omega)] at e1
 have h1 : s.length ≤ i + (s.length - j) := Nat.not_lt.1 fun hh => by have := eu_pos hh; omega
 have e2 := e (s.length - i) (by omega)
 rw [eu_zero (s := s) (i := i) (by omega)] at e2
 have := eu_pos (s := s) (i := j) (d := s.length - i) (by omega)
 omega
/-- The sample by its first three numbers. -/
def tri3 (s : List Int) (k : Int) : List Int := passK (passK (passK (smp s.length) (keysL s 2) (k + 1).toNat) (keysL s 1) (k + 1).toNat) (keysL s 0) (k + 1).toNat
section
variable {s : List Int} {k : Int}
theorem pass_perm {o : List Int} {b : Int} (hs : ∀ x ∈ s, 0 ≤ x ∧ x < k) (hk : 0 ≤ k) (hb : 0 ≤ b) (ho : ∀ x ∈ o, 0 ≤ x ∧ x < s.length) : (passK o (keysL s b) (k + 1).toNat).Perm o :=
 passK_perm fun i hi => by
  have := ho i hi
  rw [rd_keysL this.1 this.2]
  have := keyF_bd hs hk (i := i + b) (by omega)
  omega
theorem smp_in {x : Int} (h : x ∈ smp s.length) : 0 ≤ x ∧ x < s.length := by rw [mem_smp] at h; omega
theorem tri_a (hs : ∀ x ∈ s, 0 ≤ x ∧ x < k) (hk : 0 ≤ k) : (passK (smp s.length) (keysL s 2) (k + 1).toNat).Perm (smp s.length) := pass_perm hs hk (by omega) fun _ h => smp_in h
theorem tri_b (hs : ∀ x ∈ s, 0 ≤ x ∧ x < k) (hk : 0 ≤ k) : (passK (passK (smp s.length) (keysL s 2) (k + 1).toNat) (keysL s 1) (k + 1).toNat).Perm (smp s.length) :=
 (pass_perm hs hk (by omega) fun _ h => smp_in ((tri_a hs hk).subset h)).trans (tri_a hs hk)
theorem tri_c (hs : ∀ x ∈ s, 0 ≤ x ∧ x < k) (hk : 0 ≤ k) : (tri3 s k).Perm (smp s.length) :=
 (pass_perm hs hk (by omega) fun _ h => smp_in ((tri_b hs hk).subset h)).trans (tri_b hs hk)
theorem tri_sorted (hs : ∀ x ∈ s, 0 ≤ x ∧ x < k) (hk : 0 ≤ k) : (tri3 s k).Pairwise fun x y => ¬ LtH 3 (eu s y.toNat) (eu s x.toNat) := by
 have h0 : (smp s.length).Pairwise fun _ _ => True := (smp_nodup s.length).imp fun _ => trivial
 have h3 := passK_sorted (keys := keysL s 0) (passK_sorted (keys := keysL s 1) (passK_sorted (keys := keysL s 2) h0 (k + 1).toNat) (k + 1).toNat) (k + 1).toNat
 refine List.Pairwise.imp_of_mem (fun {x y} hx hy h => ?_) h3
 have mx := smp_in ((tri_c hs hk).subset hx)
 have my := smp_in ((tri_c hs hk).subset hy)
 have nn : Nn s := fun x hx => (hs x hx).1
 have e : ∀ {z : Int} (hz : 0 ≤ z ∧ z < s.length) (b : Nat), rd (keysL s (b : Int)) z = eu s z.toNat b := fun {z} hz b => by
  rw [rd_keysL hz.1 hz.2, eu_key nn]
  congr 1
  omega
 have ex0 : rd (keysL s 0) x = eu s x.toNat 0 := e mx 0
 have ex1 : rd (keysL s 1) x = eu s x.toNat 1 := e mx 1
 have ex2 : rd (keysL s 2) x = eu s x.toNat 2 := e mx 2
 have ey0 : rd (keysL s 0) y = eu s y.toNat 0 := e my 0
 have ey1 : rd (keysL s 1) y = eu s y.toNat 1 := e my 1
 have ey2 : rd (keysL s 2) y = eu s y.toNat 2 := e my 2
 rw [ex0, ex1, ex2, ey0, ey1, ey2] at h
 rintro ⟨q, hq, h1, h2⟩
 match q, hq, h1, h2 with
 | 0, _, h1, h2 => omega
 | 1, _, h1, h2 => have := h1 0 (by omega); omega
 | 2, _, h1, h2 => have := h1 0 (by omega); have := h1 1 (by omega); omega
end
/-- Ranks by three numbers, so many places in. -/
structure RkI (s o V : List Int) (q n : Int) : Prop where
 len : V.length = s.length + 3
 n0 : 0 ≤ n
 nq : n ≤ q
 bd : ∀ p, 0 ≤ p → p < q → 1 ≤ rd V (rd o p) ∧ rd V (rd o p) ≤ n
 last : 0 < q → rd V (rd o (q - 1)) = n
 lt : ∀ p p', 0 ≤ p → p < p' → p' < q → (EqH 3 (eu s (rd o p).toNat) (eu s (rd o p').toNat) ∧ rd V (rd o p) = rd V (rd o p')) ∨ (LtH 3 (eu s (rd o p).toNat) (eu s (rd o p').toNat) ∧ rd V (rd o p) < rd V (rd o p'))
 full : n = q → ∀ p, 0 ≤ p → p < q → rd V (rd o p) = p + 1
 out : ∀ j : Int, 0 ≤ j → j < s.length + 3 → (∀ p : Int, 0 ≤ p → p < q → rd o p ≠ j) → rd V j = 0
theorem EqH.trans' {m : Nat} {U V W : Nat → Int} (h : EqH m U V) (g : EqH m V W) : EqH m U W := fun i hi => (h i hi).trans (g i hi)
theorem EqH.ltH {m : Nat} {U V W : Nat → Int} (h : EqH m U V) (g : LtH m V W) : LtH m U W := by
 obtain ⟨k, hk, a, b⟩ := g
 exact ⟨k, hk, fun i hi => (h i (by omega)).trans (a i hi), by rw [h k hk]; exact b⟩
theorem LtH.eqH {m : Nat} {U V W : Nat → Int} (h : LtH m U V) (g : EqH m V W) : LtH m U W := by
 obtain ⟨k, hk, a, b⟩ := h
 exact ⟨k, hk, fun i hi => (a i hi).trans (g i (by omega)), by rw [← g k hk]; exact b⟩
section
variable {s o V : List Int} {q n : Int}
theorem rkI_zero : RkI s o (List.replicate (s.length + 3) 0) 0 0 :=
 ⟨List.length_replicate, by omega, by omega, fun p h1 h2 => by omega, fun h => by omega, fun p p' h1 h2 h3 => by omega, fun _ p h1 h2 => by omega, fun j _ _ _ => rd_replicate⟩
theorem RkI.step (h : RkI s o V q n) (hp : o.Perm (smp s.length)) (q0 : 0 ≤ q) (hq : q < o.length) {m : Int}
  (hm : (m = n + 1 ∧ (q = 0 ∨ LtH 3 (eu s (rd o (q - 1)).toNat) (eu s (rd o q).toNat))) ∨ (m = n ∧ 0 < q ∧ EqH 3 (eu s (rd o (q - 1)).toNat) (eu s (rd o q).toNat))) :
  RkI s o (upd V (rd o q) m) (q + 1) m := by
 have hin : ∀ p : Int, 0 ≤ p → p < o.length → 0 ≤ rd o p ∧ rd o p < s.length := fun p p0 p1 => smp_in (hp.subset (rd_mem p0 p1))
 have hnd : o.Nodup := hp.symm.nodup (smp_nodup _)
 have hV := h.len
 have iq := hin q q0 hq
 have same : rd (upd V (rd o q) m) (rd o q) = m := rd_upd_same iq.1 (by omega)
 have other : ∀ p, 0 ≤ p → p < q → rd (upd V (rd o q) m) (rd o p) = rd V (rd o p) := fun p p0 p1 => by
  have ip := hin p p0 (by omega)
  exact rd_upd_other iq.1 ip.1 fun e => by have := rd_inj hnd q0 hq p0 (by omega) e; omega
 have hn0 := h.n0
 have hnq := h.nq
 refine ⟨by rw [upd_length]; exact hV, by omega, by omega, fun p p0 p1 => ?_, fun _ => by rw [show q + 1 - 1 = q by omega]; exact same, fun p p' p0 pp p1 => ?_, fun e p p0 p1 => ?_, fun j j0 j1 hj => ?_⟩
 ·rcases Int.lt_or_le p q with a | a
  ·rw [other p p0 a]
   have := h.bd p p0 a
   omega
  ·rw [show p = q by omega, same]
   rcases hm with ⟨a, _⟩ | ⟨a, b, _⟩
   ·omega
   ·have := h.bd (q - 1) (by omega) (by omega)
    have := h.last b
    omega
 ·rcases Int.lt_or_le p' q with a | a
  ·rw [other p p0 (by omega), other p' (by omega) a]
   exact h.lt p p' p0 pp a
  ·obtain rfl : p' = q := by omega
   rw [other p p0 pp, same]
   have hl := h.last (by omega)
   have hb := h.bd p p0 pp
   rcases Int.lt_or_le p (p' - 1) with c | c
   ·have h1 := h.lt p (p' - 1) p0 c (by omega)
    rcases hm with ⟨rfl, z | g⟩ | ⟨rfl, _, g⟩
    ·omega
    ·refine .inr ⟨?_, by omega⟩
     rcases h1 with ⟨e, _⟩ | ⟨e, _⟩
     ·exact e.ltH g
     ·exact e.trans g
    ·rcases h1 with ⟨e, v⟩ | ⟨e, v⟩
     ·exact .inl ⟨e.trans' g, by omega⟩
     ·exact .inr ⟨e.eqH g, by omega⟩
   ·obtain rfl : p = p' - 1 := by omega
    rcases hm with ⟨rfl, z | g⟩ | ⟨rfl, _, g⟩
    ·omega
    ·exact .inr ⟨g, by omega⟩
    ·exact .inl ⟨g, hl⟩
 ·rcases hm with ⟨a, _⟩ | ⟨a, _, _⟩
  ·rcases Int.lt_or_le p q with c | c
   ·rw [other p p0 c]
    exact h.full (by omega) p p0 c
   ·rw [show p = q by omega, same]
    omega
  ·omega
 ·rw [rd_upd_other iq.1 j0 (hj q q0 (by omega))]
  exact h.out j j0 j1 fun p p0 p1 => hj p p0 (by omega)
theorem idx_of {l : List Int} {x : Int} (h : x ∈ l) : ∃ p : Int, 0 ≤ p ∧ p < l.length ∧ rd l p = x := by
 obtain ⟨i, hi, rfl⟩ := List.mem_iff_getElem.1 h
 exact ⟨i, by omega, by omega, rd_get hi⟩
/-- What ranks by three numbers say of the sample. -/
structure RkF (s V : List Int) (n : Int) : Prop where
 len : V.length = s.length + 3
 bd : ∀ i : Nat, i < s.length → i % 3 ≠ 0 → 1 ≤ rd V i ∧ rd V i ≤ n
 lt : ∀ i j : Nat, i < s.length → i % 3 ≠ 0 → j < s.length → j % 3 ≠ 0 → (rd V i < rd V j ↔ LtH 3 (eu s i) (eu s j))
 eq : ∀ i j : Nat, i < s.length → i % 3 ≠ 0 → j < s.length → j % 3 ≠ 0 → (rd V i = rd V j ↔ EqH 3 (eu s i) (eu s j))
 out : ∀ j : Int, 0 ≤ j → j < s.length + 3 → (j % 3 = 0 ∨ s.length ≤ j) → rd V j = 0
theorem RkI.done (h : RkI s o V o.length n) (hp : o.Perm (smp s.length)) : RkF s V n := by
 have at_ : ∀ i : Nat, i < s.length → i % 3 ≠ 0 → ∃ p : Int, 0 ≤ p ∧ p < o.length ∧ rd o p = i := fun i h1 h2 => idx_of (hp.symm.subset (mem_smp.2 ⟨by omega, by omega, by omega⟩))
 have key : ∀ i j : Nat, i < s.length → i % 3 ≠ 0 → j < s.length → j % 3 ≠ 0 → (EqH 3 (eu s i) (eu s j) ∧ rd V i = rd V j) ∨ (LtH 3 (eu s i) (eu s j) ∧ rd V i < rd V j) ∨ (LtH 3 (eu s j) (eu s i) ∧ rd V j < rd V i) := by
  intro i j i1 i2 j1 j2
  obtain ⟨p, p0, p1, ep⟩ := at_ i i1 i2
  obtain ⟨r, r0, r1, er⟩ := at_ j j1 j2
  rcases Int.lt_trichotomy p r with a | a | a
  ·have := h.lt p r p0 a r1
   rw [ep, er, Int.toNat_natCast, Int.toNat_natCast] at this
   exact this.elim .inl fun h => .inr (.inl h)
  ·subst a
   have e : (i : Int) = j := ep.symm.trans er
   have e : i = j := by omega
   subst e
   exact .inl ⟨fun _ _ => rfl, rfl⟩
  ·have := h.lt r p r0 a p1
   rw [ep, er, Int.toNat_natCast, Int.toNat_natCast] at this
   exact this.elim (fun h => .inl ⟨h.1.symm, h.2.symm⟩) fun h => .inr (.inr h)
 refine ⟨h.len, fun i i1 i2 => ?_, fun i j i1 i2 j1 j2 => ?_, fun i j i1 i2 j1 j2 => ?_, fun j j0 j1 hj => h.out j j0 j1 fun p p0 p1 e => ?_⟩
 ·obtain ⟨p, p0, p1, ep⟩ := at_ i i1 i2
  have := h.bd p p0 p1
  rwa [ep] at this
 ·rcases key i j i1 i2 j1 j2 with ⟨e, v⟩ | ⟨e, v⟩ | ⟨e, v⟩
  ·exact ⟨fun h => by omega, fun h => absurd e h.not_eq⟩
  ·exact ⟨fun _ => e, fun _ => v⟩
  ·exact ⟨fun h => by omega, fun h => absurd h e.asymm⟩
 ·rcases key i j i1 i2 j1 j2 with ⟨e, v⟩ | ⟨e, v⟩ | ⟨e, v⟩
  ·exact ⟨fun _ => e, fun _ => v⟩
  ·exact ⟨fun h => by omega, fun h => absurd h e.not_eq⟩
  ·exact ⟨fun h => by omega, fun h => absurd h.symm e.not_eq⟩
 ·have := mem_smp.1 (hp.subset (e ▸ rd_mem (L := o) p0 p1))
  omega
/-- What the rank of each place of the sample is in the end. -/
structure RkO (s o V : List Int) : Prop where
 perm : o.Perm (smp s.length)
 sorted : o.Pairwise (ordE s)
 len : V.length = s.length + 3
 rk : ∀ p : Int, 0 ≤ p → p < o.length → rd V (rd o p) = p + 1
 out : ∀ j : Int, 0 ≤ j → j < s.length + 3 → (j % 3 = 0 ∨ s.length ≤ j) → rd V j = 0
/-- If no two have the same three numbers, they are in order. -/
theorem RkI.all (h : RkI s o V o.length n) (hp : o.Perm (smp s.length)) (hn : n = o.length) : RkO s o V := by
 have hf := h.full hn
 refine ⟨hp, ?_, h.len, hf, (h.done hp).out⟩
 refine List.pairwise_iff_getElem.2 fun i j hi hj hij => ?_
 have := h.lt i j (by omega) (by omega) (by omega)
 have e1 := hf i (by omega) (by omega)
 have e2 := hf j (by omega) (by omega)
 rw [rd_get hi, rd_get hj] at this
 rw [rd_get hi] at e1
 rw [rd_get hj] at e2
 rcases this with ⟨_, v⟩ | ⟨v, _⟩
 ·omega
 ·exact ordE_O.2 (ltO_of v)
/-- The ranks of those that are 1, a nought, the ranks of those that are 2. -/
def blw (s V : List Int) : List Int := (plc s.length 1).map (rd V) ++ [0] ++ (plc s.length 2).map (rd V)
theorem blw_len (s V : List Int) : (blw s V).length = (s.length + 1) / 3 + 1 + s.length / 3 := by
 unfold blw
 rw [List.length_append, List.length_append, List.length_map, List.length_map, plc_len, plc_len, List.length_singleton]
 omega
/-- Where a place of the sample stands there. -/
def bpos (s : List Int) (i : Nat) : Nat := if i % 3 = 1 then i / 3 else (s.length + 1) / 3 + 1 + i / 3
theorem blw_one {t : Int} (h0 : 0 ≤ t) (h : t < (plc s.length 1).length) : rd (blw s V) t = rd V (1 + 3 * t) := by
 unfold blw
 rw [rd_append_l h0 (by rw [List.length_append, List.length_map]; omega), rd_append_l h0 (by rw [List.length_map]; exact h), rd_map h0 h, rd_plc h0 h]
 rfl
theorem blw_sep : rd (blw s V) (plc s.length 1).length = 0 := by
 unfold blw
 rw [rd_append_l (by omega) (by rw [List.length_append, List.length_map, List.length_singleton]; omega), rd_append_r (by rw [List.length_map]; omega), List.length_map, Int.sub_self]
 rfl
theorem blw_two {t : Int} (h0 : 0 ≤ t) (h : t < (plc s.length 2).length) : rd (blw s V) ((plc s.length 1).length + 1 + t) = rd V (2 + 3 * t) := by
 unfold blw
 have e : (((plc s.length 1).map (rd V) ++ [0]).length : Int) = (plc s.length 1).length + 1 := by rw [List.length_append, List.length_map, List.length_singleton]; rfl
 rw [rd_append_r (by rw [e]; omega), e, show ((plc s.length 1).length + 1 + t : Int) - ((plc s.length 1).length + 1) = t by omega, rd_map h0 h, rd_plc h0 h]
 rfl
theorem RkF.nn (h : RkF s V n) : ∀ i : Nat, i < s.length → i % 3 ≠ 0 → 0 ≤ rd V i := fun i a b => by have := h.bd i a b; omega
theorem blw_bd (h : RkF s V n) (hn : 0 ≤ n) : ∀ x ∈ blw s V, 0 ≤ x ∧ x < n + 1 := by
 intro x hx
 unfold blw at hx
 have g : ∀ r : Nat, r = 1 ∨ r = 2 → x ∈ (plc s.length r).map (rd V) → 0 ≤ x ∧ x < n + 1 := fun r hr hx => by
  obtain ⟨i, hi, rfl⟩ := List.mem_map.1 hx
  rw [mem_plc (by omega)] at hi
  have := h.bd i.toNat (by omega) (by omega)
  rw [show ((i.toNat : Nat) : Int) = i by omega] at this
  omega
 rcases List.mem_append.1 hx with hx | hx
 ·rcases List.mem_append.1 hx with hx | hx
  ·exact g 1 (.inl rfl) hx
  ·rw [List.mem_singleton.1 hx]; omega
 ·exact g 2 (.inr rfl) hx
theorem blw_nn (h : RkF s V n) (hn : 0 ≤ n) : Nn (blw s V) := fun x hx => (blw_bd h hn x hx).1
theorem blw_at (h : RkF s V n) (hn : 0 ≤ n) {i : Nat} (hi : i < s.length) (h3 : i % 3 ≠ 0) : eu (blw s V) (bpos s i) 0 = rd V i + 1 := by
 have l1 := plc_len s.length 1
 have l2 := plc_len s.length 2
 rw [eu_key (blw_nn h hn)]
 unfold keyF
 rw [blw_len]
 unfold bpos
 by_cases c : i % 3 = 1
 ·rw [if_pos c, if_neg (by omega), Nat.add_zero, blw_one (by omega) (by rw [l1]; omega), show (1 + 3 * ((i / 3 : Nat) : Int)) = i by omega]
 ·rw [if_neg c, if_neg (by omega), Nat.add_zero, show (((s.length + 1) / 3 + 1 + i / 3 : Nat) : Int) = (plc s.length 1).length + 1 + (i / 3 : Nat) by rw [l1]; omega, blw_two (by omega) (by rw [l2]; omega), show (2 + 3 * ((i / 3 : Nat) : Int)) = i by omega]
theorem blw_end (h : RkF s V n) (hn : 0 ≤ n) (h3 : s.length % 3 ≠ 0) : eu (blw s V) (bpos s s.length) 0 ≤ 1 := by
 have l1 := plc_len s.length 1
 rw [eu_key (blw_nn h hn)]
 unfold keyF
 rw [blw_len]
 unfold bpos
 by_cases c : s.length % 3 = 1
 ·rw [if_pos c, if_neg (by omega), Nat.add_zero, show ((s.length / 3 : Nat) : Int) = (plc s.length 1).length by rw [l1]; omega, blw_sep]
  omega
 ·rw [if_neg c, if_pos (by omega)]
  omega
theorem bpos_add {i : Nat} (h3 : i % 3 ≠ 0) : bpos s (i + 3) = bpos s i + 1 := by
 unfold bpos
 by_cases c : i % 3 = 1
 ·rw [if_pos c, if_pos (by omega)]; omega
 ·rw [if_neg c, if_neg (by omega)]; omega
theorem blw_ltO (h : RkF s V n) (hn : 0 ≤ n) : ∀ (k i j : Nat), i % 3 ≠ 0 → j % 3 ≠ 0 → i ≤ s.length → j ≤ s.length → i ≠ j →
  (∀ d, d < k → eu (blw s V) (bpos s i) d = eu (blw s V) (bpos s j) d) → eu (blw s V) (bpos s i) k < eu (blw s V) (bpos s j) k → LtO (eu s i) (eu s j) := by
 intro k
 induction k with
 | zero =>
  intro i j i3 j3 hi hj hij _ hlt
  rcases Nat.lt_or_ge j s.length with j1 | j1
  ·rcases Nat.lt_or_ge i s.length with i1 | i1
   ·rw [blw_at h hn i1 i3, blw_at h hn j1 j3] at hlt
    exact ltO_of ((h.lt i j i1 i3 j1 j3).1 (by omega))
   ·exact ⟨0, fun i hi => by omega, by rw [eu_zero (by omega)]; exact eu_pos (by omega)⟩
  ·have e : j = s.length := by omega
   rw [e] at hlt j3
   have h1 := blw_end h hn j3
   rw [blw_at h hn (by omega) i3] at hlt
   have := h.bd i (by omega) i3
   omega
 | succ k ih =>
  intro i j i3 j3 hi hj hij heq hlt
  have e0 := heq 0 (by omega)
  rcases Nat.lt_or_ge j s.length with j1 | j1
  ·rcases Nat.lt_or_ge i s.length with i1 | i1
   ·rw [blw_at h hn i1 i3, blw_at h hn j1 j3] at e0
    have e := (h.eq i j i1 i3 j1 j3).1 (by omega)
    have r1 := eq_room i1 j1 hij e
    have r2 := eq_room j1 i1 (Ne.symm hij) e.symm
    have sh : ∀ {x d : Nat}, x % 3 ≠ 0 → eu (blw s V) (bpos s (x + 3)) d = eu (blw s V) (bpos s x) (d + 1) := fun {x d} hx => by
     rw [bpos_add hx, eu_add, Nat.add_comm]
    have := ih (i + 3) (j + 3) (by omega) (by omega) r2 r1 (by omega) (fun d hd => by rw [sh i3, sh j3]; exact heq (d + 1) (by omega)) (by rw [sh i3, sh j3]; exact hlt)
    exact (ltO_eu e).1 this
   ·exact ⟨0, fun i hi => by omega, by rw [eu_zero (by omega)]; exact eu_pos (by omega)⟩
  ·exfalso
   have e : j = s.length := by omega
   rw [e] at e0 j3
   have h1 := blw_end h hn j3
   rw [blw_at h hn (by omega) i3] at e0
   have := h.bd i (by omega) i3
   omega
/-- What stands there at a place. -/
def bk (s : List Int) (t : Int) : Int := if t < (plc s.length 1).length then 1 + 3 * t else 2 + 3 * (t - (plc s.length 1).length - 1)
theorem bk_in {t : Int} (h0 : 0 ≤ t) (h : t < (blw s V).length) (hne : t ≠ (plc s.length 1).length) : (0 ≤ bk s t ∧ bk s t < s.length) ∧ bk s t % 3 ≠ 0 ∧ bpos s (bk s t).toNat = t.toNat := by
 have l1 := plc_len s.length 1
 rw [blw_len] at h
 unfold bk
 by_cases c : t < (plc s.length 1).length
 ·rw [if_pos c]
  refine ⟨by omega, by omega, ?_⟩
  unfold bpos
  rw [if_pos (by omega)]
  omega
 ·rw [if_neg c]
  refine ⟨by omega, by omega, ?_⟩
  unfold bpos
  rw [if_neg (by omega)]
  omega
/-- The order of the sample, out of the order of its ranks. -/
def ofB (s sb : List Int) : List Int := (sb.filter fun t : Int => decide (t ≠ (plc s.length 1).length)).map (bk s)
theorem ofB_snoc_no {sb : List Int} {t : Int} (h : t = (plc s.length 1).length) : ofB s (sb ++ [t]) = ofB s sb := by
 unfold ofB
 rw [List.filter_append, List.filter_cons_of_neg (by simpa using h)]
 simp
theorem ofB_snoc {sb : List Int} {t : Int} (h : t ≠ (plc s.length 1).length) : ofB s (sb ++ [t]) = ofB s sb ++ [bk s t] := by
 unfold ofB
 rw [List.filter_append, List.filter_cons_of_pos (by simpa using h), List.map_append]
 rfl
theorem ofB_len (sb : List Int) : (ofB s sb).length ≤ sb.length := by
 unfold ofB
 rw [List.length_map]
 exact List.length_filter_le _ _
variable {sb : List Int}
theorem ofB_mem (hb : sb.Perm (iota (blw s V).length)) {t : Int} (ht : t ∈ sb.filter fun t : Int => decide (t ≠ (plc s.length 1).length)) : (0 ≤ t ∧ t < (blw s V).length) ∧ t ≠ (plc s.length 1).length := by
 rw [List.mem_filter] at ht
 exact ⟨mem_iota.1 (hb.subset ht.1), by simpa using ht.2⟩
theorem ofB_perm (hb : sb.Perm (iota (blw s V).length)) : (ofB s sb).Perm (smp s.length) := by
 have hd : (sb.filter fun t : Int => decide (t ≠ (plc s.length 1).length)).Nodup := (hb.symm.nodup (iota_nodup _)).sublist List.filter_sublist
 refine perm_iff ?_ (smp_nodup _) fun x => ⟨fun hx => ?_, fun hx => ?_⟩
 ·unfold ofB
  refine List.pairwise_map.2 (hd.imp_of_mem fun {x y} hx hy hne e => ?_)
  obtain ⟨⟨x0, x1⟩, xn⟩ := ofB_mem hb hx
  obtain ⟨⟨y0, y1⟩, yn⟩ := ofB_mem hb hy
  have a := (bk_in x0 x1 xn).2.2
  have b := (bk_in y0 y1 yn).2.2
  rw [e, b] at a
  omega
 ·obtain ⟨t, ht, rfl⟩ := List.mem_map.1 hx
  obtain ⟨⟨x0, x1⟩, xn⟩ := ofB_mem hb ht
  have := bk_in x0 x1 xn
  exact mem_smp.2 ⟨this.1.1, this.1.2, this.2.1⟩
 ·obtain ⟨x0, x1, x3⟩ := mem_smp.1 hx
  have l1 := plc_len s.length 1
  refine List.mem_map.2 ⟨bpos s x.toNat, List.mem_filter.2 ⟨hb.symm.subset (mem_iota.2 ⟨by omega, ?_⟩), ?_⟩, ?_⟩
  ·rw [blw_len]
   unfold bpos
   split <;> omega
  ·rw [decide_eq_true_iff, l1]
   unfold bpos
   split <;> omega
  ·unfold bk bpos
   rw [l1]
   by_cases c : x.toNat % 3 = 1
   ·rw [if_pos c, if_pos (by omega)]; omega
   ·rw [if_neg c, if_neg (by omega)]; omega
theorem ofB_sorted (h : RkF s V n) (hn : 0 ≤ n) (hb : sb.Perm (iota (blw s V).length)) (hs : sb.Pairwise (ordE (blw s V))) : (ofB s sb).Pairwise (ordE s) := by
 unfold ofB
 refine List.pairwise_map.2 ((hs.filter _).imp_of_mem fun {x y} hx hy ho => ?_)
 obtain ⟨⟨x0, x1⟩, xn⟩ := ofB_mem hb hx
 obtain ⟨⟨y0, y1⟩, yn⟩ := ofB_mem hb hy
 obtain ⟨a1, a2, a3⟩ := bk_in x0 x1 xn
 obtain ⟨b1, b2, b3⟩ := bk_in y0 y1 yn
 rw [ordE_O] at ho ⊢
 obtain ⟨k, h1, h2⟩ := ho
 rw [← a3, ← b3] at h2
 refine blw_ltO h hn k _ _ (by omega) (by omega) (by omega) (by omega) ?_ (fun d hd => by rw [a3, b3]; exact h1 d hd) h2
 intro e
 rw [e] at h2
 omega
/-- The ranks told anew, so many places in. -/
structure RkN (s o V : List Int) (q : Int) : Prop where
 len : V.length = s.length + 3
 rk : ∀ p, 0 ≤ p → p < q → rd V (rd o p) = p + 1
 out : ∀ j : Int, 0 ≤ j → j < s.length + 3 → (j % 3 = 0 ∨ s.length ≤ j) → rd V j = 0
theorem RkF.zero (h : RkF s V n) (o : List Int) : RkN s o V 0 := ⟨h.len, fun p h1 h2 => by omega, h.out⟩
theorem RkN.step (h : RkN s o V q) (hp : o.Perm (smp s.length)) (q0 : 0 ≤ q) (hq : q < o.length) : RkN s o (upd V (rd o q) (q + 1)) (q + 1) := by
 have hin : ∀ p : Int, 0 ≤ p → p < o.length → rd o p ∈ smp s.length := fun p p0 p1 => hp.subset (rd_mem p0 p1)
 have hnd : o.Nodup := hp.symm.nodup (smp_nodup _)
 have iq := mem_smp.1 (hin q q0 hq)
 have hl := h.len
 refine ⟨by rw [upd_length]; exact hl, fun p p0 p1 => ?_, fun j j0 j1 hj => ?_⟩
 ·rcases Int.lt_or_le p q with a | a
  ·have ip := mem_smp.1 (hin p p0 (by omega))
   rw [rd_upd_other iq.1 ip.1 fun e => by have := rd_inj hnd q0 hq p0 (by omega) e; omega]
   exact h.rk p p0 a
  ·rw [show p = q by omega, rd_upd_same iq.1 (by omega)]
 ·rw [rd_upd_other iq.1 j0 (by omega)]
  exact h.out j j0 j1 hj
theorem RkN.done (h : RkN s o V o.length) (hp : o.Perm (smp s.length)) (hs : o.Pairwise (ordE s)) : RkO s o V := ⟨hp, hs, h.len, h.rk, h.out⟩
/-- A place of the sample, or the end. -/
def smpE (s : List Int) (a : Int) : Prop := 0 ≤ a ∧ (a < s.length ∧ a % 3 ≠ 0 ∨ a = s.length)
theorem RkO.at_ (h : RkO s o V) {a : Int} (ha : smpE s a) (hl : a < s.length) : ∃ p : Int, (0 ≤ p ∧ p < o.length) ∧ rd o p = a ∧ rd V a = p + 1 := by
 obtain ⟨p, p0, p1, e⟩ := idx_of (h.perm.symm.subset (mem_smp.2 ⟨ha.1, hl, ha.2.elim (·.2) fun h => by omega⟩))
 exact ⟨p, ⟨p0, p1⟩, e, by rw [← e]; exact h.rk p p0 p1⟩
theorem RkO.end_ (h : RkO s o V) : rd V (s.length : Int) = 0 := h.out _ (by omega) (by omega) (.inr (by omega))
theorem RkO.bd (h : RkO s o V) {a : Int} (ha : smpE s a) : 0 ≤ rd V a ∧ rd V a ≤ o.length := by
 rcases Int.lt_or_le a s.length with c | c
 ·obtain ⟨p, hp, _, e⟩ := h.at_ ha c
  omega
 ·have e : a = s.length := ha.2.elim (fun h => by omega) id
  rw [e, h.end_]
  omega
theorem RkO.cmp (h : RkO s o V) {a b : Int} (ha : smpE s a) (hb : smpE s b) (hne : a ≠ b) : rd V a < rd V b ↔ LtO (eu s a.toNat) (eu s b.toNat) := by
 rcases Int.lt_or_le a s.length with ca | ca
 ·obtain ⟨p, hp, ep, vp⟩ := h.at_ ha ca
  rcases Int.lt_or_le b s.length with cb | cb
  ·obtain ⟨r, hr, er, vr⟩ := h.at_ hb cb
   rw [vp, vr]
   constructor
   ·intro hlt
    have := pairwise_rd h.sorted hp.1 (show p < r by omega) hr.2
    rw [ep, er] at this
    exact ordE_O.1 this
   ·intro hlt
    rcases Int.lt_trichotomy p r with c | c | c
    ·omega
    ·subst c
     exact absurd (ep.symm.trans er) hne
    ·have := pairwise_rd h.sorted hr.1 c hp.2
     rw [ep, er] at this
     exact absurd hlt (ltO_asymm (ordE_O.1 this))
  ·have e : b = s.length := hb.2.elim (fun h => by omega) id
   rw [e, h.end_, vp]
   refine ⟨fun h => by omega, fun ⟨k, _, h2⟩ => ?_⟩
   rw [eu_zero (s := s) (i := (s.length : Int).toNat) (by omega)] at h2
   have := eu_nn s a.toNat k
   omega
 ·have e : a = s.length := ha.2.elim (fun h => by omega) id
  rw [e, h.end_]
  have cb : b < s.length := hb.2.elim (·.1) fun h => by omega
  obtain ⟨r, hr, er, vr⟩ := h.at_ hb cb
  rw [vr]
  refine ⟨fun _ => ⟨0, fun i hi => by omega, ?_⟩, fun _ => by omega⟩
  rw [eu_zero (by omega)]
  exact eu_pos (by have := hb.1; omega)
/-- The rank of the place behind. -/
def bhd (s V : List Int) : List Int := (List.range s.length).map fun i : Nat => rd V ((i : Int) + 1)
theorem bhd_len (s V : List Int) : (bhd s V).length = s.length := by simp [bhd]
theorem rd_bhd {i : Int} (h0 : 0 ≤ i) (h : i < s.length) : rd (bhd s V) i = rd V (i + 1) := by
 unfold bhd
 rw [rd_range h0 (by omega)]
 congr 1
 omega
theorem RkO.all_bd (h : RkO s o V) {j : Int} (j0 : 0 ≤ j) (hj : j ≤ s.length) : 0 ≤ rd V j ∧ rd V j ≤ s.length := by
 have ho : o.length ≤ s.length := by rw [h.perm.length_eq, smp_len]; omega
 by_cases c : j % 3 = 0
 ·rw [h.out j j0 (by omega) (.inl c)]; omega
 ·have := h.bd (a := j) ⟨j0, by omega⟩
  omega
theorem bhd_bd (h : RkO s o V) : ∀ x ∈ bhd s V, 0 ≤ x ∧ x < (s.length : Int) + 1 := by
 intro x hx
 obtain ⟨i, hi, rfl⟩ := List.mem_map.1 hx
 have := List.mem_range.1 hi
 have := h.all_bd (j := (i : Int) + 1) (by omega) (by omega)
 omega
/-- The others in order. -/
def oth (s V : List Int) (k : Int) : List Int := passK (passK (plc s.length 0) (bhd s V) ((s.length : Int) + 1).toNat) (keysL s 0) (k + 1).toNat
theorem oth_a (h : RkO s o V) : (passK (plc s.length 0) (bhd s V) ((s.length : Int) + 1).toNat).Perm (plc s.length 0) :=
 passK_perm fun i hi => by
  rw [mem_plc (by omega)] at hi
  have := bhd_bd h _ (rd_mem (L := bhd s V) hi.1 (by rw [bhd_len]; exact hi.2.1))
  omega
theorem oth_perm (h : RkO s o V) {k : Int} (hs : ∀ x ∈ s, 0 ≤ x ∧ x < k) (hk : 0 ≤ k) : (oth s V k).Perm (plc s.length 0) :=
 (pass_perm hs hk (by omega) fun x hx => by have := (oth_a h).subset hx; rw [mem_plc (by omega)] at this; omega).trans (oth_a h)
theorem oth_sorted (h : RkO s o V) {k : Int} (hs : ∀ x ∈ s, 0 ≤ x ∧ x < k) (hk : 0 ≤ k) : (oth s V k).Pairwise (ordE s) := by
 have h3 := passK_sorted (keys := keysL s 0) (passK_sorted (keys := bhd s V) (plc_nodup s.length 0) ((s.length : Int) + 1).toNat) (k + 1).toNat
 refine List.Pairwise.imp_of_mem (fun {x y} hx hy g => ?_) h3
 have mx := (oth_perm h hs hk).subset hx
 have my := (oth_perm h hs hk).subset hy
 rw [mem_plc (by omega)] at mx my
 have nn : Nn s := fun x hx => (hs x hx).1
 have e : ∀ {z : Int}, 0 ≤ z → z < s.length → rd (keysL s 0) z = eu s z.toNat 0 := fun {z} h0 h1 => by
  rw [rd_keysL h0 h1, eu_key nn]
  congr 1
  omega
 rw [e mx.1 mx.2.1, e my.1 my.2.1, rd_bhd mx.1 mx.2.1, rd_bhd my.1 my.2.1] at g
 have sx : smpE s (x + 1) := ⟨by omega, by omega⟩
 have sy : smpE s (y + 1) := ⟨by omega, by omega⟩
 rw [ordE_O]
 rcases g with g | ⟨g1, g2 | ⟨g2, g3⟩⟩
 ·exact ⟨0, fun i hi => by omega, g⟩
 ·have := (h.cmp sx sy fun e => by rw [e] at g2; omega).1 g2
  refine (ltO_eu (m := 1) fun i hi => ?_).1 ?_
  ·rw [show i = 0 by omega]; exact g1
  ·rw [show x.toNat + 1 = (x + 1).toNat by omega, show y.toNat + 1 = (y + 1).toNat by omega]
   exact this
 ·exfalso
  have hxy : x ≠ y := g3
  have t := h.cmp sx sy (by omega)
  have t' := h.cmp sy sx (by omega)
  rcases tri s.length (eu s (x + 1).toNat) (eu s (y + 1).toNat) with a | a | a
  ·have := t.2 (ltO_of a); omega
  ·have a0 : EqH s.length (eu s x.toNat) (eu s y.toNat) := fun i hi => by
    cases i with
    | zero => exact g1
    | succ i =>
     have := a i (by omega)
     rw [show (x + 1).toNat = x.toNat + 1 by omega, show (y + 1).toNat = y.toNat + 1 by omega, eu_add, eu_add, Nat.add_comm] at this
     exact this
   have := eu_inj (by omega) (by omega) a0
   omega
  ·have := t'.2 (ltO_of a); omega
/-- Key by key. -/
theorem less_key (nn : Nn s) {i j : Int} (i0 : 0 ≤ i) (j0 : 0 ≤ j) {c : Nat} (e : EqH c (eu s i.toNat) (eu s j.toNat)) (hne : keyF s (i + c) ≠ keyF s (j + c)) : keyF s (i + c) < keyF s (j + c) ↔ ordE s i j := by
 have k1 : keyF s (i + c) = eu s i.toNat c := by rw [eu_key nn]; congr 1; omega
 have k2 : keyF s (j + c) = eu s j.toNat c := by rw [eu_key nn]; congr 1; omega
 rw [k1, k2] at hne ⊢
 rw [ordE_O]
 refine ⟨fun h => ⟨c, e, h⟩, fun ⟨k, h1, h2⟩ => ?_⟩
 rcases Nat.lt_trichotomy k c with a | a | a
 ·have := e k a; omega
 ·rw [← a]; exact h2
 ·exact absurd (h1 c a) hne
theorem less_eq (nn : Nn s) {i j : Int} (i0 : 0 ≤ i) (j0 : 0 ≤ j) {c : Nat} (e : EqH c (eu s i.toNat) (eu s j.toNat)) (h : keyF s (i + c) = keyF s (j + c)) : EqH (c + 1) (eu s i.toNat) (eu s j.toNat) := fun d hd => by
 rcases Nat.lt_or_ge d c with a | a
 ·exact e d a
 ·have k1 : keyF s (i + c) = eu s i.toNat c := by rw [eu_key nn]; congr 1; omega
  have k2 : keyF s (j + c) = eu s j.toNat c := by rw [eu_key nn]; congr 1; omega
  rw [show d = c by omega, ← k1, ← k2, h]
theorem less_rank (h : RkO s o V) {i j : Int} (hi : 0 ≤ i ∧ i < s.length) (hj : 0 ≤ j ∧ j < s.length) (hij : i ≠ j) {c : Nat} (e : EqH c (eu s i.toNat) (eu s j.toNat)) (i3 : (i + c) % 3 ≠ 0) (j3 : (j + c) % 3 ≠ 0) :
  (i + c ≤ s.length ∧ j + c ≤ s.length) ∧ (rd V (i + c) < rd V (j + c) ↔ ordE s i j) := by
 have r1 := eq_room (s := s) (i := i.toNat) (j := j.toNat) (by omega) (by omega) (by omega) e
 have r2 := eq_room (s := s) (i := j.toNat) (j := i.toNat) (by omega) (by omega) (by omega) e.symm
 refine ⟨by omega, ?_⟩
 rw [h.cmp ⟨by omega, by omega⟩ ⟨by omega, by omega⟩ (by omega), ordE_O, ← ltO_eu e, show (i + c).toNat = i.toNat + c by omega, show (j + c).toNat = j.toNat + c by omega]
/-- Two rows in order become one. -/
structure MgI (s o t acc : List Int) (a q : Int) : Prop where
 perm : acc.Perm (o.take a.toNat ++ t.take q.toNat)
 sorted : acc.Pairwise (ordE s)
 ahead : ∀ x ∈ acc, ∀ y, y ∈ o.drop a.toNat ∨ y ∈ t.drop q.toNat → ordE s x y
variable {t acc : List Int} {a : Int}
theorem mgI_zero : MgI s o t [] 0 0 := ⟨.refl _, .nil, fun x hx => by cases hx⟩
theorem MgI.len (h : MgI s o t acc a q) (a0 : 0 ≤ a) (ha : a ≤ o.length) (q0 : 0 ≤ q) (hq : q ≤ t.length) : (acc.length : Int) = a + q := by
 rw [h.perm.length_eq, List.length_append, List.length_take, List.length_take]
 omega
theorem snoc_pw {r : Int → Int → Prop} {l : List Int} {x : Int} (h : l.Pairwise r) (hx : ∀ y ∈ l, r y x) : (l ++ [x]).Pairwise r := by
 rw [List.pairwise_append]
 exact ⟨h, List.pairwise_singleton _ _, fun y hy z hz => by rw [List.mem_singleton.1 hz]; exact hx y hy⟩
theorem MgI.left (h : MgI s o t acc a q) (ho : o.Pairwise (ordE s)) (ht : t.Pairwise (ordE s)) (a0 : 0 ≤ a) (ha : a < o.length) (q0 : 0 ≤ q) (hq : q < t.length) (hl : ordE s (rd o a) (rd t q)) : MgI s o t (acc ++ [rd o a]) (a + 1) q := by
 have eo := drop_rd (s := o) a0 ha
 have et := drop_rd (s := t) q0 hq
 refine ⟨?_, snoc_pw h.sorted fun y hy => h.ahead y hy _ (.inl (by rw [eo]; simp)), fun x hx y hy => ?_⟩
 ·rw [take_rd a0 ha]
  refine (h.perm.append_right _).trans ?_
  rw [List.append_assoc, List.append_assoc]
  exact List.Perm.append_left _ List.perm_append_comm
 ·rcases List.mem_append.1 hx with hx | hx
  ·exact h.ahead x hx y (hy.imp_left fun hy => by rw [eo]; exact List.mem_cons_of_mem _ hy)
  ·rw [List.mem_singleton.1 hx]
   have so : (o.drop a.toNat).Pairwise (ordE s) := ho.sublist (List.drop_sublist _ _)
   have st : (t.drop q.toNat).Pairwise (ordE s) := ht.sublist (List.drop_sublist _ _)
   rw [eo, List.pairwise_cons] at so
   rw [et, List.pairwise_cons] at st
   rcases hy with hy | hy
   ·exact so.1 y hy
   ·rw [et] at hy
    rcases List.mem_cons.1 hy with rfl | hy
    ·exact hl
    ·exact ordE_trans _ _ _ hl (st.1 y hy)
theorem MgI.right (h : MgI s o t acc a q) (ho : o.Pairwise (ordE s)) (ht : t.Pairwise (ordE s)) (a0 : 0 ≤ a) (q0 : 0 ≤ q) (hq : q < t.length) (hl : a < o.length → ordE s (rd t q) (rd o a)) : MgI s o t (acc ++ [rd t q]) a (q + 1) := by
 have et := drop_rd (s := t) q0 hq
 refine ⟨?_, snoc_pw h.sorted fun y hy => h.ahead y hy _ (.inr (by rw [et]; simp)), fun x hx y hy => ?_⟩
 ·rw [take_rd q0 hq, ← List.append_assoc]
  exact h.perm.append_right _
 ·rcases List.mem_append.1 hx with hx | hx
  ·exact h.ahead x hx y (hy.imp_right fun hy => by rw [et]; exact List.mem_cons_of_mem _ hy)
  ·rw [List.mem_singleton.1 hx]
   have st : (t.drop q.toNat).Pairwise (ordE s) := ht.sublist (List.drop_sublist _ _)
   rw [et, List.pairwise_cons] at st
   rcases hy with hy | hy
   ·rcases Int.lt_or_le a o.length with c | c
    ·have eo := drop_rd (s := o) a0 c
     have so : (o.drop a.toNat).Pairwise (ordE s) := ho.sublist (List.drop_sublist _ _)
     rw [eo, List.pairwise_cons] at so
     rw [eo] at hy
     rcases List.mem_cons.1 hy with rfl | hy
     ·exact hl c
     ·exact ordE_trans _ _ _ (hl c) (so.1 y hy)
    ·rw [List.drop_of_length_le (by omega)] at hy
     cases hy
   ·exact st.1 y hy
theorem MgI.done (h : MgI s o t acc a q) (ho : o.Pairwise (ordE s)) (hq : (t.length : Int) ≤ q) (hp : o.Perm (smp s.length)) (tp : t.Perm (plc s.length 0)) : (acc ++ o.drop a.toNat).Perm (iota s.length) ∧ (acc ++ o.drop a.toNat).Pairwise (ordE s) := by
 refine ⟨?_, ?_⟩
 ·have h1 := h.perm
  rw [List.take_of_length_le (l := t) (by omega)] at h1
  refine ((h1.append_right _).trans ?_).trans (((hp.append_right _).trans (tp.append_left _)).trans (smp_all _))
  refine (List.perm_append_comm.append_right _).trans ?_
  rw [List.append_assoc, List.take_append_drop]
  exact List.perm_append_comm
 ·rw [List.pairwise_append]
  exact ⟨h.sorted, ho.sublist (List.drop_sublist _ _), fun x hx y hy => h.ahead x hx y (.inl hy)⟩
end
/-- Which numbers are there. -/
def thr (s : List Int) (m : Int) : List Int := (List.range (m + 1).toNat).map fun c : Nat => if (c : Int) ∈ s then 1 else 0
theorem thr_len (s : List Int) (m : Int) : (thr s m).length = (m + 1).toNat := by simp [thr]
theorem rd_thr {s : List Int} {m c : Int} (h0 : 0 ≤ c) (h : c ≤ m) : rd (thr s m) c = if c ∈ s then 1 else 0 := by
 unfold thr
 rw [rd_range h0 (by omega), show ((c.toNat : Nat) : Int) = c by omega]
theorem thr_nil (m : Int) : thr [] m = List.replicate (m + 1).toNat 0 := by
 refine list_ext_rd (by rw [thr_len, List.length_replicate]) fun j h0 h1 => ?_
 rw [thr_len] at h1
 rw [rd_thr h0 (by omega), rd_replicate]
 rfl
theorem thr_step {s : List Int} {m x : Int} (h0 : 0 ≤ x) (h : x ≤ m) : upd (thr s m) x 1 = thr (s ++ [x]) m := by
 refine list_ext_rd (by rw [upd_length, thr_len, thr_len]) fun j j0 j1 => ?_
 rw [upd_length, thr_len] at j1
 rw [rd_upd h0 j0 (by rw [thr_len]; omega), rd_thr j0 (by omega), rd_thr j0 (by omega)]
 by_cases e : j = x
 ·rw [if_pos e, if_pos (by rw [e]; simp)]
 ·rw [if_neg e]
  by_cases c : j ∈ s
  ·rw [if_pos c, if_pos (List.mem_append_left _ c)]
  ·rw [if_neg c, if_neg (by rw [List.mem_append, List.mem_singleton]; exact fun h => h.elim c e)]
theorem thr_nn (s : List Int) (m : Int) : ∀ x ∈ thr s m, 0 ≤ x := by
 intro x hx
 obtain ⟨c, _, rfl⟩ := List.mem_map.1 hx
 split <;> omega
theorem ps_thr {s : List Int} {m : Int} : ∀ x : Nat, (x : Int) ≤ m + 1 → ps (thr s m) x = ((List.range x).filter fun c : Nat => decide ((c : Int) ∈ s)).length
 | 0, _ => rfl
 | x + 1, h => by
  rw [show ((x + 1 : Nat) : Int) = (x : Int) + 1 by omega, ps_succ (by omega) (by rw [thr_len]; omega), ps_thr x (by omega), rd_thr (by omega) (by omega), List.range_succ, List.filter_append, List.length_append]
  by_cases c : (x : Int) ∈ s
  ·rw [if_pos c, List.filter_cons_of_pos (by simpa using c)]
   simp
  ·rw [if_neg c, List.filter_cons_of_neg (by simpa using c)]
   simp
theorem ps_mono {L : List Int} (h : ∀ x ∈ L, 0 ≤ x) {a b : Int} (h0 : 0 ≤ a) (hab : a ≤ b) (hb : b ≤ L.length) : ps L a ≤ ps L b := by
 obtain ⟨d, rfl⟩ : ∃ d : Nat, b = a + d := ⟨(b - a).toNat, by omega⟩
 induction d with
 | zero => simp
 | succ d ih =>
  have := ih (by omega) (by omega)
  rw [show a + ((d + 1 : Nat) : Int) = a + (d : Int) + 1 by omega, ps_succ (by omega) (by omega)]
  have := h _ (rd_mem (L := L) (k := a + d) (by omega) (by omega))
  omega
theorem sq_mono {s : List Int} {m x y : Int} (hx : x ∈ s) (x0 : 0 ≤ x) (hxy : x < y) (hy : y ≤ m) : ps (thr s m) x < ps (thr s m) y := by
 have h1 := ps_succ (L := thr s m) (k := x) x0 (by rw [thr_len]; omega)
 rw [rd_thr x0 (by omega), if_pos hx] at h1
 have h2 := ps_mono (thr_nn s m) (a := x + 1) (b := y) (by omega) (by omega) (by rw [thr_len]; omega)
 omega
theorem sq_bd {s : List Int} {m x : Int} (hx : x ∈ s) (x0 : 0 ≤ x) (hm : x ≤ m) : 0 ≤ ps (thr s m) x ∧ ps (thr s m) x < s.length := by
 have e : ps (thr s m) x = ((List.range x.toNat).filter fun c : Nat => decide ((c : Int) ∈ s)).length := by
  have := ps_thr (s := s) (m := m) x.toNat (by omega)
  rwa [show ((x.toNat : Nat) : Int) = x by omega] at this
 rw [e]
 have hl := nodup_len (l := (((List.range x.toNat).filter fun c : Nat => decide ((c : Int) ∈ s)).map fun c : Nat => (c : Int)) ++ [x]) (m := s) ?_ ?_
 ·rw [List.length_append, List.length_map, List.length_singleton] at hl
  omega
 ·refine List.nodup_append.2 ⟨List.pairwise_map.2 ((List.nodup_range.sublist List.filter_sublist).imp fun {x y} h hh => h (by omega)), List.pairwise_singleton _ _, fun a ha b hb e => ?_⟩
  obtain ⟨c, hc, rfl⟩ := List.mem_map.1 ha
  have := List.mem_range.1 (List.mem_filter.1 hc).1
  rw [List.mem_singleton] at hb
  omega
 ·intro z hz
  rcases List.mem_append.1 hz with hz | hz
  ·obtain ⟨c, hc, rfl⟩ := List.mem_map.1 hz
   simpa using (List.mem_filter.1 hc).2
  ·rw [List.mem_singleton.1 hz]; exact hx
/-- The numbers asx places in their order. -/
def sqz (s : List Int) (m : Int) : List Int := s.map fun x => ps (thr s m) x
theorem sqz_len (s : List Int) (m : Int) : (sqz s m).length = s.length := by simp [sqz]
theorem sqz_bd {s : List Int} {m : Int} (hs : ∀ x ∈ s, 0 ≤ x ∧ x ≤ m) : ∀ x ∈ sqz s m, 0 ≤ x ∧ x < s.length := by
 intro y hy
 obtain ⟨x, hx, rfl⟩ := List.mem_map.1 hy
 exact sq_bd hx (hs x hx).1 (hs x hx).2
theorem cmpL_mapOn {P : Int → Prop} {f : Int → Int} (hf : ∀ x y : Int, P x → P y → (x < y ↔ f x < f y)) : ∀ a b : List Int, (∀ x ∈ a, P x) → (∀ x ∈ b, P x) → cmpL (a.map f) (b.map f) = cmpL a b
 | [], [], _, _ => rfl
 | [], b :: v, _, _ => rfl
 | a :: u, [], _, _ => rfl
 | a :: u, b :: v, ha, hb => by
  have pa := ha a (by simp)
  have pb := hb b (by simp)
  simp only [List.map_cons, cmpL, ← hf a b pa pb, ← hf b a pb pa]
  rw [cmpL_mapOn hf u v (fun x hx => ha x (List.mem_cons_of_mem _ hx)) fun x hx => hb x (List.mem_cons_of_mem _ hx)]
theorem sqz_ord {s : List Int} {m : Int} (hs : ∀ x ∈ s, 0 ≤ x ∧ x ≤ m) {x y : Int} : ordE (sqz s m) x y ↔ ordE s x y := by
 rw [← ordE_cmp, ← ordE_cmp]
 unfold sqz
 rw [← List.map_drop, ← List.map_drop, cmpL_mapOn (P := fun x => x ∈ s) (fun x y hx hy => ⟨fun h => sq_mono hx (hs x hx).1 h (hs y hy).2, fun h => ?_⟩) _ _ (fun x hx => List.mem_of_mem_drop hx) fun x hx => List.mem_of_mem_drop hx]
 refine Int.not_le.1 fun c => ?_
 rcases Int.lt_or_le y x with d | d
 ·have := sq_mono hy (hs y hy).1 d (hs x hx).2
  omega
 ·rw [show x = y by omega] at h
  omega
theorem sqz_order {s b : List Int} {m : Int} (hs : ∀ x ∈ s, 0 ≤ x ∧ x ≤ m) (hp : b.Perm (iota (sqz s m).length)) (ho : b.Pairwise (ordE (sqz s m))) : b.Perm (iota s.length) ∧ b.Pairwise (ordE s) := by
 rw [sqz_len] at hp
 exact ⟨hp, ho.imp fun h => (sqz_ord hs).1 h⟩
/-- The sample by its last so many keys of three. -/
def triK (s : List Int) (k : Int) : Nat → List Int
 | 0 => smp s.length
 | j + 1 => passK (triK s k j) (keysL s (2 - (j : Int))) (k + 1).toNat
theorem triK_perm {s : List Int} {k : Int} (hs : ∀ x ∈ s, 0 ≤ x ∧ x < k) (hk : 0 ≤ k) : ∀ j : Nat, j ≤ 3 → (triK s k j).Perm (smp s.length)
 | 0, _ => .refl _
 | j + 1, h => (pass_perm hs hk (by omega) fun x hx => smp_in ((triK_perm hs hk j (by omega)).subset hx)).trans (triK_perm hs hk j (by omega))
/-- Have two places the same three keys? -/
def alkP (s : List Int) (i j : Int) : Prop := keyF s (i + 0) = keyF s (j + 0) ∧ keyF s (i + 1) = keyF s (j + 1) ∧ keyF s (i + 2) = keyF s (j + 2)
instance (s : List Int) (i j : Int) : Decidable (alkP s i j) := by unfold alkP; exact inferInstance
theorem alkP_iff {s : List Int} (nn : Nn s) {i j : Int} (i0 : 0 ≤ i) (j0 : 0 ≤ j) : alkP s i j ↔ EqH 3 (eu s i.toNat) (eu s j.toNat) := by
 have e : ∀ (z : Int) (b : Nat), 0 ≤ z → keyF s (z + b) = eu s z.toNat b := fun z b hz => by rw [eu_key nn]; congr 1; omega
 have a0 : keyF s (i + 0) = eu s i.toNat 0 := e i 0 i0
 have a1 : keyF s (i + 1) = eu s i.toNat 1 := e i 1 i0
 have a2 : keyF s (i + 2) = eu s i.toNat 2 := e i 2 i0
 have b0 : keyF s (j + 0) = eu s j.toNat 0 := e j 0 j0
 have b1 : keyF s (j + 1) = eu s j.toNat 1 := e j 1 j0
 have b2 : keyF s (j + 2) = eu s j.toNat 2 := e j 2 j0
 unfold alkP
 rw [a0, a1, a2, b0, b1, b2]
 constructor
 ·rintro ⟨h0, h1, h2⟩ d hd
  match d, hd with
  | 0, _ => exact h0
  | 1, _ => exact h1
  | 2, _ => exact h2
 ·intro h
  exact ⟨h 0 (by omega), h 1 (by omega), h 2 (by omega)⟩
theorem alkP_of {s : List Int} {i j : Int} (h : ∀ c : Int, 0 ≤ c → c < 3 → keyF s (i + c) = keyF s (j + c)) : alkP s i j := ⟨h 0 (by omega) (by omega), h 1 (by omega) (by omega), h 2 (by omega) (by omega)⟩
theorem alkP_not {s : List Int} {i j c : Int} (c0 : 0 ≤ c) (c3 : c < 3) (h : keyF s (i + c) ≠ keyF s (j + c)) : ¬ alkP s i j := by
 rintro ⟨h0, h1, h2⟩
 rcases (by omega : c = 0 ∨ c = 1 ∨ c = 2) with rfl | rfl | rfl
 ·exact h h0
 ·exact h h1
 ·exact h h2
section
variable {s o V : List Int} {q n : Int}
theorem new_lt (nn : Nn s) (hp : o.Perm (smp s.length)) (hs : o.Pairwise fun x y => ¬ LtH 3 (eu s y.toNat) (eu s x.toNat)) (q0 : 0 ≤ q) (hq : q < o.length) (h : q = 0 ∨ ¬ alkP s (rd o (q - 1)) (rd o q)) :
  q = 0 ∨ LtH 3 (eu s (rd o (q - 1)).toNat) (eu s (rd o q).toNat) := by
 rcases Int.lt_or_le 0 q with c | c
 ·rcases h with h | h
  ·exact .inl h
  ·have hin : ∀ p : Int, 0 ≤ p → p < o.length → 0 ≤ rd o p := fun p a b => (smp_in (hp.subset (rd_mem a b))).1
   rw [alkP_iff nn (hin (q - 1) (by omega) (by omega)) (hin q q0 hq)] at h
   have g := pairwise_rd hs (i := q - 1) (j := q) (by omega) (by omega) hq
   rcases tri 3 (eu s (rd o (q - 1)).toNat) (eu s (rd o q).toNat) with a | a | a
   ·exact .inr a
   ·exact absurd a h
   ·exact absurd a g
 ·exact .inl (by omega)
theorem old_eq (nn : Nn s) (hp : o.Perm (smp s.length)) (q0 : 0 ≤ q) (hq : q < o.length) (h : ¬ (q = 0 ∨ ¬ alkP s (rd o (q - 1)) (rd o q))) : 0 < q ∧ EqH 3 (eu s (rd o (q - 1)).toNat) (eu s (rd o q).toNat) := by
 have c : 0 < q := by omega
 have hin : ∀ p : Int, 0 ≤ p → p < o.length → 0 ≤ rd o p := fun p a b => (smp_in (hp.subset (rd_mem a b))).1
 refine ⟨c, (alkP_iff nn (hin (q - 1) (by omega) (by omega)) (hin q q0 hq)).1 (Decidable.not_not.1 fun g => h (.inr g))⟩
/-- A short text has no two alike. -/
theorem RkI.short (h : RkI s o V o.length n) (hp : o.Perm (smp s.length)) (h2 : 2 ≤ s.length) (h3 : s.length ≤ 3) : n = o.length := by
 have hl : o.length = (s.length + 1) / 3 + s.length / 3 := by rw [hp.length_eq, smp_len]
 have hin : ∀ p : Int, 0 ≤ p → p < o.length → (0 ≤ rd o p ∧ rd o p < s.length ∧ rd o p % 3 ≠ 0) := fun p a b => mem_smp.1 (hp.subset (rd_mem a b))
 have hnq := h.nq
 have b0 := h.bd 0 (by omega) (by omega)
 rcases (by omega : o.length = 1 ∨ o.length = 2) with e | e
 ·omega
 ·have b1 := h.bd 1 (by omega) (by omega)
  have i0 := hin 0 (by omega) (by omega)
  have i1 := hin 1 (by omega) (by omega)
  rcases h.lt 0 1 (by omega) (by omega) (by omega) with ⟨a, _⟩ | ⟨_, a⟩
  ·exfalso
   have hne : rd o 0 ≠ rd o 1 := fun g => by have := rd_inj (hp.symm.nodup (smp_nodup _)) (i := 0) (j := 1) (by omega) (by omega) (by omega) (by omega) g; omega
   have := eq_room (s := s) (i := (rd o 0).toNat) (j := (rd o 1).toNat) (by omega) (by omega) (by omega) a
   omega
  ·omega
theorem bk_one {t : Int} (h0 : 0 ≤ t) (h : t < (plc s.length 1).length) : rd (plc s.length 1) t = bk s t := by
 unfold bk
 rw [if_pos h, rd_plc h0 h]
 rfl
theorem bk_two {t : Int} (h : (plc s.length 1).length < t) (ht : t - 1 < (smp s.length).length) : rd (smp s.length) (t - 1) = bk s t := by
 unfold bk
 rw [if_neg (by omega)]
 unfold smp at ht ⊢
 rw [List.length_append] at ht
 rw [rd_append_r (by omega), rd_plc (by omega) (by omega)]
 omega
theorem plc_short (h : s.length < 2) : plc s.length 0 = iota s.length := by
 rcases (by omega : s.length = 0 ∨ s.length = 1) with e | e <;> rw [e] <;> rfl
theorem pw_one (h : s.length < 2) : (iota s.length).Pairwise (ordE s) := by
 rcases (by omega : s.length = 0 ∨ s.length = 1) with e | e
 ·rw [e]; exact .nil
 ·rw [e]; exact List.pairwise_singleton _ _
theorem bhd_of {W : List Int} (hl : W.length = s.length) (h : ∀ j : Int, 0 ≤ j → j < s.length → rd W j = rd V (j + 1)) : W = bhd s V :=
 list_ext_rd (hl.trans (bhd_len s V).symm) fun j h0 h1 => by rw [rd_bhd h0 (by omega)]; exact h j h0 (by omega)
theorem keysL_of {W : List Int} {b : Int} (hl : W.length = s.length) (h : ∀ j : Int, 0 ≤ j → j < s.length → rd W j = keyF s (j + b)) : W = keysL s b :=
 list_ext_rd (hl.trans (keysL_len s b).symm) fun j h0 h1 => by rw [rd_keysL h0 (by omega)]; exact h j h0 (by omega)
end
theorem sum_le_len : ∀ {L : List Int}, (∀ x ∈ L, x ≤ 1) → L.sum ≤ L.length
 | [], _ => by simp
 | a :: L, h => by
  have := sum_le_len (L := L) fun x hx => h x (List.mem_cons_of_mem _ hx)
  have := h a (by simp)
  rw [List.sum_cons, List.length_cons]
  omega
theorem thr_sum (s : List Int) (m : Int) : (thr s m).sum ≤ (m + 1).toNat := by
 rw [← thr_len s m]
 refine sum_le_len fun x hx => ?_
 obtain ⟨c, _, rfl⟩ := List.mem_map.1 hx
 split <;> omega
theorem sqz_of {s W : List Int} {m : Int} (hs : ∀ x ∈ s, 0 ≤ x ∧ x ≤ m) (hl : W.length = s.length) (h : ∀ j : Int, 0 ≤ j → j < s.length → rd W j = rd (startsV (thr s m)) (rd s j)) : W = sqz s m :=
 list_ext_rd (hl.trans (sqz_len s m).symm) fun j h0 h1 => by
  have hm := hs _ (rd_mem (L := s) h0 (by omega))
  unfold sqz
  rw [rd_map h0 (by omega), h j h0 (by omega), rd_startsV hm.1 (by rw [thr_len]; omega)]
end Go.Pure

/-! ## E21 -/
namespace Go.Eng
open Go Go.RowKit
section
variable {B : Nat} {w0 w w' : World} {R R' : List Row}
theorem Hp.allocObj (h : Hp B w0 w R) (o : Obj) : Hp B w0 (w.alloc o) R :=
 h.join (Rn := []) ⟨(Below.refl _ _).alloc (Nat.le_refl _) _, by simp, fun _ hr => (by cases hr), .nil, Late.alloc _ _⟩
theorem Hp.putObj (h : Hp B w0 w R) {l : Nat} {o : Obj} (ho : w.heap[l]? = some o) (hn : notCells o = true) (o' : Obj) (hB : B ≤ l) (h0 : w0.heap.size ≤ l) : Hp B w0 (w.putObj l o') R := by
 refine ⟨h.below.trans ((Below.refl _ _).grown (grownBy_putObj' w l o') h.base fun k e => by cases e; exact hB), by rw [World.putObj_size]; exact h.base, fun r hr => ?_, h.apart, ⟨h.late.1, fun k q hk hc => ?_⟩⟩
 ·refine Row.lies_of_block (h.own r hr) fun a ha => World.putObj_heap_other fun e => ?_
  obtain ⟨cs, e', fr, hc⟩ := Row.lies_cells (h.own r hr) ha
  rw [e, ho] at hc
  cases hc
  cases hn
 ·rw [World.putObj_heap_other (fun e => by have := (Array.getElem?_eq_some_iff.1 hk).1; omega)]
  exact h.late.2 k q hk hc
theorem Hp.rebase (h : Hp B w0 w R) : Hp B w w R := ⟨Below.refl _ _, h.base, h.own, h.apart, Late.refl _⟩
theorem Hp.comp (h : Hp B w0 w R) (h' : Hp B w w' R') : Hp B w0 w' R' := ⟨h.below.trans h'.below, h'.base, h'.own, h'.apart, h.late.trans h'.late⟩
/-- What lay in the first world reads the same over a later base. -/
theorem Rd.cb {W : World} {A : Option Addr} {n c sz : Nat} {xs : List Value} (h : Rd w A n c sz xs) (hb : Below w.heap.size w W) (R : List Row) : RdC w.heap.size W R A n c sz xs :=
 fun _ hw => h.below (hb.trans hw.below)
end
def mark (D : Nat) : Deferred := { target := .collected D, args := #[] }
section
variable {P : Program} {n : Nd} {B : Nat} {w0 w00 : World} {F : Exit → Act → World → Prop} {L : Env} {R : List Row}
def V (P : Program) (n : Nd) (B : Nat) (w0 : World) (c : Code) (F : Exit → Act → World → Prop) (L : Env) (R : List Row) : Prop :=
 ∀ a w, Sat n L a → Hp B w0 w R → c.wpIn (NF n.rd) 0 P F a w
def FQ (F : Exit → Act → World → Prop) (n : Nd) (B : Nat) (w0 : World) : PostC :=
 ⟨fun L R => ∀ a w, Sat n L a → Hp B w0 w R → F .normal a w, fun L R => ∀ a w, Sat n L a → Hp B w0 w R → F .ret a w, fun i L R => ∀ a w, Sat n L a → Hp B w0 w R → F (.exit i) a w⟩
theorem v_w {c : Code} (h : W P n B w0 c (FQ F n B w0) L R) : V P n B w0 c F L R := fun a w hs hp => by
 refine wpIn_mono (h a w hs hp) fun e a' w' hq => ?_
 cases e with
 | normal => obtain ⟨L', R', hs', hp', hf⟩ := hq; exact hf a' w' hs' hp'
 | ret => obtain ⟨L', R', hs', hp', hf⟩ := hq; exact hf a' w' hs' hp'
 | exit i => obtain ⟨L', R', hs', hp', hf⟩ := hq; exact hf a' w' hs' hp'
 | goto l => exact hq.elim
 | panic ch => exact hq.elim
 | outgrown => exact hq.elim
theorem v_seqW {x y : Code} (h : W P n B w0 x { FQ F n B w0 with nrm := fun L R => V P n B w0 y F L R } L R) : V P n B w0 (.seq x y) F L R := fun a w hs hp => by
 refine wpIn_seq (wpIn_mono (h a w hs hp) fun e a' w' hq => ?_)
 cases e with
 | normal => obtain ⟨L', R', hs', hp', hf⟩ := hq; exact hf a' w' hs' hp'
 | ret => obtain ⟨L', R', hs', hp', hf⟩ := hq; exact hf a' w' hs' hp'
 | exit i => obtain ⟨L', R', hs', hp', hf⟩ := hq; exact hf a' w' hs' hp'
 | goto l => exact hq.elim
 | panic ch => exact hq.elim
 | outgrown => exact hq.elim
theorem v_seq {x y : Code} (h : V P n B w0 x (Exit.then (y.wpIn (NF n.rd) 0 P F) F) L R) : V P n B w0 (.seq x y) F L R := fun a w hs hp => wpIn_seq (h a w hs hp)
/-- What stands behind is met. -/
def VN (n : Nd) (B : Nat) (w0 : World) (F : Exit → Act → World → Prop) (L : Env) (R : List Row) : Prop := ∀ a w, Sat n L a → Hp B w0 w R → F .normal a w
theorem v_go {y : Code} {rd : Option Nat} (h : V P n B w0 y F L R) (hrd : n.rd = rd := by exact rfl) : VN n B w0 (Exit.then (y.wpIn (NF rd) 0 P F) F) L R := fun a w hs hp => by subst hrd; exact h a w hs hp
theorem v_goB {id : Nat} (h : VN n B w0 F L R) : VN n B w0 (Exit.inBlock id F) L R := h
theorem v_block {id : Nat} {c : Code} (h : V P n B w0 c (Exit.inBlock id F) L R) : V P n B w0 (.block id c) F L R := fun a w hs hp => wpIn_block (h a w hs hp)
/-- The slots of a round. -/
def prm : List Nat → List Value → Env → Env
 | p :: ps, v :: vs, L => prm ps vs ((p, v) :: L)
 | _, _, L => L
theorem Sat.prm : ∀ (pl : List Nat) (vs : List Value) {m : Nat} {ds : List Deferred} {rd : Option Nat} {L : Env} {t : Array Value}, pl.all (fun p => Nat.blt p m) = true → Sat ⟨m, ds, rd⟩ L { tmps := t, defers := ds } →
  Sat ⟨m, ds, rd⟩ (prm pl vs L) { tmps := (pl.zip vs).foldl (fun t (p, v) => t.setIfInBounds p v) t, defers := ds }
 | [], _, _, _, _, _, _, _, h => h
 | _ :: _, [], _, _, _, _, _, _, h => h
 | p :: pl, v :: vs, m, ds, rd, L, t, hp, h => by
  simp only [List.all_cons, Bool.and_eq_true] at hp
  have h1 : Sat ⟨m, ds, rd⟩ ((p, v) :: L) { tmps := t.setIfInBounds p v, defers := ds } := h.put (d := p) hp.1 v
  exact Sat.prm pl vs hp.2 h1
/-- An iterator without an end ahead: N elements, one by one; it reads what Rdy says. -/
def Iter (P : Program) (gf : Nat) (lb : Array Value) (Rdy : World → Prop) (N : Nat) (f : Nat → List Value) : Prop :=
 ∀ (l : Nat) (J : Nat → World → Prop) (W : World), (∀ k W, J k W → Rdy W) →
  (∀ k W, k < N → J k W → YieldAt Fence.wide 0 P l (f k).toArray W fun e W' => e = .returned (.bool true) ∧ J (k + 1) W') →
  J 0 W → CallsIn Fence.wide 0 P gf (#[.func (.yield l) #[] #[]] ++ lb) W fun e W' => (∃ v, e = .returned v) ∧ J N W'
/-- Where a function stands behind loops over functions: the base is a later world, in which the marks' blocks lie. -/
structure Gd (B : Nat) (w00 : World) (n : Nd) (w0 : World) : Prop where
 below : Below B w00 w0
 late : Late w00 w0
 nodup : n.ds.Nodup
 marks : ∀ d ∈ n.ds, ∃ D, d = mark D ∧ B ≤ D ∧ w00.heap.size ≤ D ∧ w0.heap[D]? = some (.deferred (some []))
theorem Gd.refl {m : Nat} : Gd B w00 (m : Nd) w00 := ⟨Below.refl _ _, Late.refl _, .nil, fun _ h => (by cases h)⟩
/-- The rounds of a loop, at whatever level: l the record, D the block of what is put off. -/
theorem rounds {σ : Type} {m : Nat} {pl : List Nat} {assign body : Code} {gf : Nat} {lb : Array Value} {Rdy : World → Prop} {N : Nat} {f : Nat → List Value} (it : Iter P gf lb Rdy N f)
  (hpl : pl.all (fun p => Nat.blt p m) = true) (hfl : ∀ k, (f k).length = pl.length) (Rx : Nat → σ → List Row) (J : Nat → σ → Prop) (hrdy : ∀ k s w, J k s → Hp B w0 w (Rx k s) → Rdy w)
  (round : ∀ l k s W2, k < N → J k s → Below B w0 W2 → W P ⟨m, [], some l⟩ B W2 assign ⟨fun L' R' => ∀ W3, Below B w0 W3 → W P ⟨m, [], some l⟩ B W3 body ⟨fun _ R'' => ∃ s', J (k + 1) s' ∧ ∀ W4 w, Hp B W4 w R'' → Hp B W4 w (Rx (k + 1) s'), fun _ _ => False, fun _ _ _ => False⟩ L' R', fun _ _ => False, fun _ _ _ => False⟩ (prm pl (f k) L) (Rx k s))
  {l : Nat} {rec : LoopState → Loop} {fn : FuncId} {t : Array Value} {Df : Nat} (hrec : rec = fun st => { state := st, pending := none, fn, tmps := t, params := pl.toArray, assign, body, defers := Df }) (ht : Sat ⟨m, [], some l⟩ L { tmps := t, defers := [] }) (hlB : B ≤ l) (hl0 : w0.heap.size ≤ l) (X : World → Prop)
  (hX : ∀ W W' R R', X W → Hp B w0 W R → Hp B W W' R' → X W') (hXp : ∀ W o, X W → X (W.putObj l o)) {W1 : World} (hL1 : W1.heap[l]? = some (.loop (rec .ready))) (hX1 : X W1) {s0 : σ} (hJ0 : J 0 s0) (hp1 : Hp B w0 W1 (Rx 0 s0)) :
  CallsIn Fence.wide 0 P gf (#[.func (.yield l) #[] #[]] ++ lb) W1 fun e W' => (∃ v, e = .returned v) ∧ ∃ s, J N s ∧ Hp B w0 W' (Rx N s) ∧ W'.heap[l]? = some (.loop (rec .ready)) ∧ X W' := by
 refine it l (fun k W => ∃ s, J k s ∧ Hp B w0 W (Rx k s) ∧ W.heap[l]? = some (.loop (rec .ready)) ∧ X W) W1 (fun k W ⟨s, hJ, hp, _⟩ => hrdy k s W hJ hp) ?_ ⟨s0, hJ0, hp1, hL1, hX1⟩
 rintro k W hk ⟨s, hJ, hp, hl, hx⟩
 have hy := run_yield (P := P) (args := (f k).toArray) hl (by rw [hrec]; simp [hfl k])
 have hs1 : Sat ⟨m, [], some l⟩ (prm pl (f k) L) { tmps := (rec .ready).params.zip (f k).toArray |>.foldl (fun t (p, v) => t.setIfInBounds p v) (rec .ready).tmps, defers := [] } := by
  rw [hrec]
  simpa using Sat.prm pl (f k) hpl ht
 refine ⟨fn, _, assign, body, by rw [hy, hrec], roundIn_of_wpIn trivial ?_⟩
 refine wpIn_mono ((round l k s W hk hJ hp.below) _ _ (by rw [hrec] at hs1; exact hs1) hp.rebase) ?_
 rintro e a1 Wa hq
 cases e with
 | normal =>
  obtain ⟨L', R', hs', hp', hb⟩ := hq
  have hla := hp'.late.2 _ _ hl rfl
  have hpa := hp.comp hp'
  have hlt := (Array.getElem?_eq_some_iff.1 hla).1
  have hbr := run_beginRound (P := P) hla (by rw [hrec])
  refine ⟨_, hbr, ?_⟩
  have hp2 : Hp B w0 (Wa.putObj l (.loop { rec .ready with state := .busy })) R' := hpa.putObj hla rfl _ hlB hl0
  have hl2 : (Wa.putObj l (.loop { rec .ready with state := .busy })).heap[l]? = some (.loop { rec .ready with state := .busy }) := World.putObj_heap_same hlt
  have hx2 := hXp _ (.loop { rec .ready with state := .busy }) (hX _ _ _ _ hx hp hp')
  refine wpIn_mono (hb _ hp2.below a1 _ hs' hp2.rebase) ?_
  rintro e a3 W3 hq
  cases e with
  | normal =>
   obtain ⟨L3, R3, _, hp3, s', hJ', hR'⟩ := hq
   have hl3 := hp3.late.2 _ _ hl2 rfl
   have her := run_endRound (P := P) none hl3
   refine ⟨_, _, her, rfl, s', hJ', ?_, ?_, ?_⟩
   ·exact (hp2.comp (hR' _ _ hp3)).putObj hl3 rfl _ hlB hl0
   ·rw [World.putObj_heap_same (Array.getElem?_eq_some_iff.1 hl3).1, hrec]
    rfl
   ·exact hXp _ _ (hX _ _ _ _ hx2 hp2 hp3)
  | ret => obtain ⟨_, _, _, _, h⟩ := hq; exact h.elim
  | exit id => obtain ⟨_, _, _, _, h⟩ := hq; exact h.elim
  | goto t => exact hq.elim
  | panic ch => exact hq.elim
  | outgrown => exact hq.elim
 | ret => obtain ⟨_, _, _, _, h⟩ := hq; exact h.elim
 | exit id => obtain ⟨_, _, _, _, h⟩ := hq; exact h.elim
 | goto t => exact hq.elim
 | panic ch => exact hq.elim
 | outgrown => exact hq.elim
/-- An outermost loop over a function. -/
theorem v_range {σ : Type} {m : Nat} {ds : List Deferred} {g : Operand} {pl : List Nat} {assign body : Code} {gf : Nat} {lb : Array Value} {Rdy : World → Prop} {N : Nat} {f : Nat → List Value} (hg : ev L g = some (.func (.func gf) #[] lb))
  (hen : ∀ args w, (callFunc gf args).run P w = .ok (.enter gf args) w) (it : Iter P gf lb Rdy N f)
  (hpl : pl.all (fun p => Nat.blt p m) = true) (hfl : ∀ k, (f k).length = pl.length) (hG : Gd B w00 ⟨m, ds, none⟩ w0) (Rx : Nat → σ → List Row) (J : Nat → σ → Prop) (h0 : ∃ s, J 0 s ∧ ∀ w, Hp B w0 w R → Hp B w0 w (Rx 0 s)) (hrdy : ∀ k s w, J k s → Hp B w0 w (Rx k s) → Rdy w)
  (round : ∀ l k s W2, k < N → J k s → Below B w0 W2 → W P ⟨m, [], some l⟩ B W2 assign ⟨fun L' R' => ∀ W3, Below B w0 W3 → W P ⟨m, [], some l⟩ B W3 body ⟨fun _ R'' => ∃ s', J (k + 1) s' ∧ ∀ W4 w, Hp B W4 w R'' → Hp B W4 w (Rx (k + 1) s'), fun _ _ => False, fun _ _ _ => False⟩ L' R', fun _ _ => False, fun _ _ _ => False⟩ (prm pl (f k) L) (Rx k s))
  (after : ∀ W5 D s, J N s → Below B w0 W5 → Gd B w00 ⟨m, mark D :: ds, none⟩ W5 → VN ⟨m, mark D :: ds, none⟩ B W5 F L (Rx N s)) :
  V P ⟨m, ds, none⟩ B w0 (.rangeFunc g pl.toArray assign body) F L R := by
 intro a w hs hp
 refine wpIn_rangeFunc ?_
 intro fn _
 obtain ⟨rec, hrec⟩ : ∃ rec : LoopState → Loop, rec = fun st => { state := st, pending := none, fn, tmps := a.tmps, params := pl.toArray, assign, body, defers := w.heap.size } := ⟨_, rfl⟩
 obtain ⟨W1, hW1⟩ : ∃ W1, (w.alloc (.deferred (some []))).alloc (.loop (rec .ready)) = W1 := ⟨_, rfl⟩
 have hL1 : W1.heap[w.heap.size + 1]? = some (.loop (rec .ready)) := by
  rw [← hW1]; have := World.alloc_heap_new (w.alloc (.deferred (some []))) (.loop (rec .ready)); rwa [World.size_alloc] at this
 have hK1 : W1.heap[w.heap.size]? = some (.deferred (some [])) := by
  rw [← hW1]; exact (Below.heap_alloc _ _ _ (by simp)).trans (World.alloc_heap_new w _)
 obtain ⟨s0, hJ0, hR0⟩ := h0
 have hp1 : Hp B w0 W1 (Rx 0 s0) := by rw [← hW1]; exact ((hR0 w hp).allocObj _).allocObj _
 have hle0 : w0.heap.size ≤ w.heap.size := hp.below.size
 have hleB := hp.base
 refine ⟨w.heap.size + 1, [mark w.heap.size], W1, { target := .fn (.func gf) lb, args := #[.func (.yield (w.heap.size + 1)) #[] #[]] }, W1, gf, #[.func (.yield (w.heap.size + 1)) #[] #[]] ++ lb, W1, ?_, ?_, fun _ _ => trivial, ?_, fun h => (by cases h), ?_⟩
 ·rw [← hW1, hrec]; exact run_enterLoop_outer _ _ _ _ _
 ·simp only [resolve, hs.ev hg]
  simp [go_sem]
 ·simp [invoke, go_sem, hen]
 ·refine CallsIn.mono (rounds (w0 := w0) (m := m) (L := L) it hpl hfl Rx J hrdy round (l := w.heap.size + 1) (rec := rec) hrec ⟨hs.size, rfl, hs.val⟩ (by omega) (by omega) (fun W => W.heap[w.heap.size]? = some (.deferred (some [])) ∧ Late w W) ?_ ?_ hL1 ⟨hK1, ?_⟩ hJ0 hp1) ?_
  ·rintro W W' R R' ⟨hk, hl⟩ _ h2
   exact ⟨h2.late.2 _ _ hk rfl, hl.trans h2.late⟩
  ·rintro W o ⟨hk, hl⟩
   refine ⟨(World.putObj_heap_other (by omega)).trans hk, hl.1, fun k q hk' hc => ?_⟩
   rw [World.putObj_heap_other (fun e => by have := (Array.getElem?_eq_some_iff.1 hk').1; omega)]
   exact hl.2 k q hk' hc
  ·rw [← hW1]
   exact (Late.alloc _ _).trans (Late.alloc _ _)
  ·rintro e W2 ⟨⟨v, rfl⟩, s, hJ, hp2, hl2, hk2, hlate⟩
   have hel := run_endLoop (P := P) hl2 (by rw [hrec]; simp)
   have hpn : (rec .ready).pending = none := by rw [hrec]
   refine ⟨none, W2.putObj (w.heap.size + 1) (.loop { rec .ready with state := .exhausted }), hel.trans (congrArg (fun p => Result.ok p _) hpn), ?_⟩
   have hp3 : Hp B w0 (W2.putObj (w.heap.size + 1) (.loop { rec .ready with state := .exhausted })) (Rx N s) := hp2.putObj hl2 rfl _ (by omega) (by omega)
   have hk3 : (W2.putObj (w.heap.size + 1) (.loop { rec .ready with state := .exhausted })).heap[w.heap.size]? = some (.deferred (some [])) := (World.putObj_heap_other (by omega)).trans hk2
   have hlate3 : Late w (W2.putObj (w.heap.size + 1) (.loop { rec .ready with state := .exhausted })) := ⟨hlate.1, fun k q hk' hc => by
    rw [World.putObj_heap_other (fun e => by have := (Array.getElem?_eq_some_iff.1 hk').1; omega)]
    exact hlate.2 k q hk' hc⟩
   have hds := hs.defers
   refine after _ w.heap.size s hJ hp3.below ⟨hG.below.trans hp3.below, hG.late.trans hp3.late, List.nodup_cons.2 ⟨fun hmem => ?_, hG.nodup⟩, fun d hd => ?_⟩ _ _ ⟨hs.size, by simp only [List.singleton_append, hds], hs.val⟩ hp3.rebase
   ·obtain ⟨D, he, _, _, hD⟩ := hG.marks _ hmem
    have h1 := (Array.getElem?_eq_some_iff.1 hD).1
    simp only [mark, Deferred.mk.injEq, Target.collected.injEq, and_true] at he
    omega
   ·rcases List.mem_cons.1 hd with rfl | hd
    ·exact ⟨_, rfl, by omega, by have := hG.below.size; omega, hk3⟩
    ·obtain ⟨D, he, h1, h2, hD⟩ := hG.marks _ hd
     exact ⟨D, he, h1, h2, hp3.late.2 _ _ hD rfl⟩
theorem v_range2 {σ0 σ1 : Type} {m : Nat} {ds : List Deferred} {g : Operand} {pl : List Nat} {assign body : Code} {gf : Nat} {lb : Array Value} {Rdy : World → Prop} {N : Nat} {f : Nat → List Value} (hg : ev L g = some (.func (.func gf) #[] lb))
  (hen : ∀ args w, (callFunc gf args).run P w = .ok (.enter gf args) w) (it : Iter P gf lb Rdy N f)
  (hpl : pl.all (fun p => Nat.blt p m) = true) (hfl : ∀ k, (f k).length = pl.length) (hG : Gd B w00 ⟨m, ds, none⟩ w0) (Rx : Nat → σ0 → σ1 → List Row) (J : Nat → σ0 → σ1 → Prop)
  (h0 : ∃ x0 x1, J 0 x0 x1 ∧ ∀ w, Hp B w0 w R → Hp B w0 w (Rx 0 x0 x1)) (hrdy : ∀ k x0 x1 w, J k x0 x1 → Hp B w0 w (Rx k x0 x1) → Rdy w)
  (round : ∀ l k x0 x1 W2, k < N → J k x0 x1 → Below B w0 W2 → W P ⟨m, [], some l⟩ B W2 assign ⟨fun L' R' => ∀ W3, Below B w0 W3 → W P ⟨m, [], some l⟩ B W3 body ⟨fun _ R'' => ∃ y0 y1, J (k + 1) y0 y1 ∧ ∀ W4 w, Hp B W4 w R'' → Hp B W4 w (Rx (k + 1) y0 y1), fun _ _ => False, fun _ _ _ => False⟩ L' R', fun _ _ => False, fun _ _ _ => False⟩ (prm pl (f k) L) (Rx k x0 x1))
  (after : ∀ W5 D x0 x1, J N x0 x1 → Below B w0 W5 → Gd B w00 ⟨m, mark D :: ds, none⟩ W5 → VN ⟨m, mark D :: ds, none⟩ B W5 F L (Rx N x0 x1)) :
  V P ⟨m, ds, none⟩ B w0 (.rangeFunc g pl.toArray assign body) F L R := by
 obtain ⟨x0, x1, h1, h2⟩ := h0
 refine v_range (σ := σ0 × σ1) hg hen it hpl hfl hG (fun k p => Rx k p.1 p.2) (fun k p => J k p.1 p.2) ⟨(x0, x1), h1, h2⟩ (fun k p => hrdy k p.1 p.2) (fun l k p W2 hk hp hb => w_mono (round l k p.1 p.2 W2 hk hp hb) ?_ (fun _ _ h => h) (fun _ _ _ h => h)) (fun W5 D p => after W5 D p.1 p.2)
 intro L' R' h W3 hb3
 refine w_mono (h W3 hb3) ?_ (fun _ _ h => h) (fun _ _ _ h => h)
 rintro _ R'' ⟨y0, y1, g1, g2⟩
 exact ⟨(y0, y1), g1, g2⟩
theorem v_range4 {σ0 σ1 σ2 σ3 : Type} {m : Nat} {ds : List Deferred} {g : Operand} {pl : List Nat} {assign body : Code} {gf : Nat} {lb : Array Value} {Rdy : World → Prop} {N : Nat} {f : Nat → List Value} (hg : ev L g = some (.func (.func gf) #[] lb))
  (hen : ∀ args w, (callFunc gf args).run P w = .ok (.enter gf args) w) (it : Iter P gf lb Rdy N f)
  (hpl : pl.all (fun p => Nat.blt p m) = true) (hfl : ∀ k, (f k).length = pl.length) (hG : Gd B w00 ⟨m, ds, none⟩ w0) (Rx : Nat → σ0 → σ1 → σ2 → σ3 → List Row) (J : Nat → σ0 → σ1 → σ2 → σ3 → Prop)
  (h0 : ∃ x0 x1 x2 x3, J 0 x0 x1 x2 x3 ∧ ∀ w, Hp B w0 w R → Hp B w0 w (Rx 0 x0 x1 x2 x3)) (hrdy : ∀ k x0 x1 x2 x3 w, J k x0 x1 x2 x3 → Hp B w0 w (Rx k x0 x1 x2 x3) → Rdy w)
  (round : ∀ l k x0 x1 x2 x3 W2, k < N → J k x0 x1 x2 x3 → Below B w0 W2 → W P ⟨m, [], some l⟩ B W2 assign ⟨fun L' R' => ∀ W3, Below B w0 W3 → W P ⟨m, [], some l⟩ B W3 body ⟨fun _ R'' => ∃ y0 y1 y2 y3, J (k + 1) y0 y1 y2 y3 ∧ ∀ W4 w, Hp B W4 w R'' → Hp B W4 w (Rx (k + 1) y0 y1 y2 y3), fun _ _ => False, fun _ _ _ => False⟩ L' R', fun _ _ => False, fun _ _ _ => False⟩ (prm pl (f k) L) (Rx k x0 x1 x2 x3))
  (after : ∀ W5 D x0 x1 x2 x3, J N x0 x1 x2 x3 → Below B w0 W5 → Gd B w00 ⟨m, mark D :: ds, none⟩ W5 → VN ⟨m, mark D :: ds, none⟩ B W5 F L (Rx N x0 x1 x2 x3)) :
  V P ⟨m, ds, none⟩ B w0 (.rangeFunc g pl.toArray assign body) F L R := by
 obtain ⟨x0, x1, x2, x3, h1, h2⟩ := h0
 refine v_range (σ := σ0 × σ1 × σ2 × σ3) hg hen it hpl hfl hG (fun k p => Rx k p.1 p.2.1 p.2.2.1 p.2.2.2) (fun k p => J k p.1 p.2.1 p.2.2.1 p.2.2.2) ⟨(x0, x1, x2, x3), h1, h2⟩ (fun k p => hrdy k p.1 p.2.1 p.2.2.1 p.2.2.2) (fun l k p W2 hk hp hb => w_mono (round l k p.1 p.2.1 p.2.2.1 p.2.2.2 W2 hk hp hb) ?_ (fun _ _ h => h) (fun _ _ _ h => h)) (fun W5 D p => after W5 D p.1 p.2.1 p.2.2.1 p.2.2.2)
 intro L' R' h W3 hb3
 refine w_mono (h W3 hb3) ?_ (fun _ _ h => h) (fun _ _ _ h => h)
 rintro _ R'' ⟨y0, y1, y2, y3, g1, g2⟩
 exact ⟨(y0, y1, y2, y3), g1, g2⟩
def Fin (P : Program) (fn : Func) (B : Nat) (w00 : World) (Post : Value → List Row → Prop) : Exit → Act → World → Prop :=
 bodyPostM Fence.wide 0 P fn fun e w' => ∃ v R', e = .returned v ∧ Hp B w00 w' R' ∧ Post v R'
theorem leaves_marks {fn : Func} {Post : Value → List Row → Prop} {tmps : Array Value} {v : Value} {w0 : World} (hB : Below B w00 w0) (hL : Late w00 w0) : ∀ (ds : List Deferred) (w : World), ds.Nodup → (∀ d ∈ ds, ∃ D, d = mark D ∧ B ≤ D ∧ w00.heap.size ≤ D ∧ w.heap[D]? = some (.deferred (some []))) → Hp B w00 w R → (∀ w, (results fn tmps).run P w = .ok v w) → Post v R →
  LeavesInM Fence.wide 0 P fn tmps (fun e w' => ∃ v R', e = .returned v ∧ Hp B w00 w' R' ∧ Post v R') ds .returning w
 | [], w, _, _, hp, hr, hv => ⟨v, hr w, v, R, rfl, hp, hv⟩
 | d :: ds, w, hn, hm, hp, hr, hv => by
  obtain ⟨D, rfl, h1, h2, hD⟩ := hm _ (.head _)
  refine ⟨by simp, .inl ⟨D, _, rfl, run_takeDeferred hD, leaves_marks hB hL ds _ (List.nodup_cons.1 hn).2 (fun d hd => ?_) (hp.putObj hD rfl _ h1 h2) hr hv⟩⟩
  obtain ⟨D', he, h1', h2', hD'⟩ := hm d (.tail _ hd)
  refine ⟨D', he, h1', h2', (World.putObj_heap_other fun e => ?_).trans hD'⟩
  subst e
  subst he
  exact (List.nodup_cons.1 hn).1 hd
theorem fin_of {fn : Func} {Post : Value → List Row → Prop} {v : Value} (hG : Gd B w00 n w0) (hres : ∀ a w, Sat n L a → (results fn a.tmps).run P w = .ok v w) (hv : Post v R) : ∀ a w, Sat n L a → Hp B w0 w R → Fin P fn B w00 Post .ret a w ∧ Fin P fn B w00 Post .normal a w := by
 intro a w hs hp
 have hp' : Hp B w00 w R := ⟨hG.below.trans hp.below, hp.base, hp.own, hp.apart, hG.late.trans hp.late⟩
 have h := leaves_marks (P := P) (fn := fn) (Post := Post) (tmps := a.tmps) (v := v) hG.below hG.late n.ds w hG.nodup (fun d hd => by
  obtain ⟨D, he, h1, h2, hD⟩ := hG.marks d hd
  exact ⟨D, he, h1, h2, hp.late.2 _ _ hD rfl⟩) hp' (fun w => hres a w hs) hv
 rw [← hs.defers] at h
 exact ⟨h, h⟩
theorem fin1 {fn : Func} {Post : Value → List Row → Prop} {r : Nat} (hr : fn.results = #[.tmp r]) (hG : Gd B w00 n w0) (h : ∃ v, lk L r = some v ∧ Post v R) : ∀ a w, Sat n L a → Hp B w0 w R → Fin P fn B w00 Post .ret a w := by
 obtain ⟨v, hv, hpost⟩ := h
 exact fun a w hs hp => (fin_of hG (fun a w hs => by rw [results_tmp hr, hs.getD hv]) hpost a w hs hp).1
theorem fin2 {fn : Func} {Post : Value → List Row → Prop} {r s : Nat} (hr : fn.results = #[.tmp r, .tmp s]) (hG : Gd B w00 n w0) (h : ∃ v u, lk L r = some v ∧ lk L s = some u ∧ Post (.tuple #[v, u]) R) : ∀ a w, Sat n L a → Hp B w0 w R → Fin P fn B w00 Post .ret a w := by
 obtain ⟨v, u, hv, hu, hpost⟩ := h
 exact fun a w hs hp => (fin_of hG (fun a w hs => by rw [results_tmp2 hr, hs.getD hv, hs.getD hu]) hpost a w hs hp).1
theorem fnV {f : FuncId} {fn : Func} {c : Code} {args : List Value} {Post : Value → List Row → Prop} (hf : P.funcs[f]? = some fn) (hb : fn.body = some c) (hl : Nat.ble args.length fn.ntmps = true)
  (h : V P (fn.ntmps : Nd) B w00 c (Fin P fn B w00 Post) (ini 0 args) R) : Ct P f args.toArray B w00 R Post := by
 intro w hw
 have hl' : args.length ≤ fn.ntmps := Nat.le_of_ble_eq_true hl
 refine callsIn_wide.1 (callsIn_of_wp_marks (F := Fence.wide) (n := 0) hf hb trivial (h _ w ⟨by simp; omega, rfl, fun t v ht => ?_⟩ hw))
 obtain ⟨_, h2⟩ := lk_ini args 0 t v ht
 simp only [Nat.sub_zero] at h2
 have hlt := (List.getElem?_eq_some_iff.1 h2).1
 rw [← h2]
 simp [Array.getElem?_append, hlt]
end
end Go.Eng

/-! ## E24 -/
namespace Go.Eng
open Go Go.RowKit
section
variable {P : Program} {n : Nd} {B : Nat} {w0 w00 : World} {F : Exit → Act → World → Prop} {L : Env} {R : List Row}
theorem w_loop8 {σ0 σ1 σ2 σ3 σ4 σ5 σ6 σ7 : Type} {c : Code} {Q : PostC} {L : Env} {R : List Row} (Lx : σ0 → σ1 → σ2 → σ3 → σ4 → σ5 → σ6 → σ7 → Env) (Rx : σ0 → σ1 → σ2 → σ3 → σ4 → σ5 → σ6 → σ7 → List Row) (J : σ0 → σ1 → σ2 → σ3 → σ4 → σ5 → σ6 → σ7 → Prop) (μ : σ0 → σ1 → σ2 → σ3 → σ4 → σ5 → σ6 → σ7 → Nat)
  (h0 : ∃ x0 x1 x2 x3 x4 x5 x6 x7, J x0 x1 x2 x3 x4 x5 x6 x7 ∧ Sub (Lx x0 x1 x2 x3 x4 x5 x6 x7) L ∧ ∀ w, Hp B w0 w R → Hp B w0 w (Rx x0 x1 x2 x3 x4 x5 x6 x7))
  (round : ∀ x0 x1 x2 x3 x4 x5 x6 x7, J x0 x1 x2 x3 x4 x5 x6 x7 → W P n B w0 c { Q with nrm := fun L' R' => ∃ y0 y1 y2 y3 y4 y5 y6 y7, J y0 y1 y2 y3 y4 y5 y6 y7 ∧ μ y0 y1 y2 y3 y4 y5 y6 y7 < μ x0 x1 x2 x3 x4 x5 x6 x7 ∧ Sub (Lx y0 y1 y2 y3 y4 y5 y6 y7) L' ∧ ∀ w, Hp B w0 w R' → Hp B w0 w (Rx y0 y1 y2 y3 y4 y5 y6 y7) } (Lx x0 x1 x2 x3 x4 x5 x6 x7) (Rx x0 x1 x2 x3 x4 x5 x6 x7)) : W P n B w0 (.loop c) Q L R := by
 obtain ⟨x0, x1, x2, x3, x4, x5, x6, x7, h1, h2, h3⟩ := h0
 refine w_loop (σ := σ0 × σ1 × σ2 × σ3 × σ4 × σ5 × σ6 × σ7) (fun p => Lx p.1 p.2.1 p.2.2.1 p.2.2.2.1 p.2.2.2.2.1 p.2.2.2.2.2.1 p.2.2.2.2.2.2.1 p.2.2.2.2.2.2.2) (fun p => Rx p.1 p.2.1 p.2.2.1 p.2.2.2.1 p.2.2.2.2.1 p.2.2.2.2.2.1 p.2.2.2.2.2.2.1 p.2.2.2.2.2.2.2) (fun p => J p.1 p.2.1 p.2.2.1 p.2.2.2.1 p.2.2.2.2.1 p.2.2.2.2.2.1 p.2.2.2.2.2.2.1 p.2.2.2.2.2.2.2) (fun p => μ p.1 p.2.1 p.2.2.1 p.2.2.2.1 p.2.2.2.2.1 p.2.2.2.2.2.1 p.2.2.2.2.2.2.1 p.2.2.2.2.2.2.2) ⟨(x0, x1, x2, x3, x4, x5, x6, x7), h1, h2, h3⟩ fun p hp => w_mono (round p.1 p.2.1 p.2.2.1 p.2.2.2.1 p.2.2.2.2.1 p.2.2.2.2.2.1 p.2.2.2.2.2.2.1 p.2.2.2.2.2.2.2 hp) ?_ (fun _ _ h => h) (fun _ _ _ h => h)
 rintro L' R' ⟨y0, y1, y2, y3, y4, y5, y6, y7, g1, g2, g3, g4⟩
 exact ⟨(y0, y1, y2, y3, y4, y5, y6, y7), ⟨g1, g2⟩, g3, g4⟩
/-- What the slices of a row lead to, whatever the world in which these rows lie. -/
def SlR (k : IntKind) (Rs : List Row) (vals : List Value) (ls : List (List Int)) : Prop := vals.length = ls.length ∧ ∀ j : Nat, j < ls.length → ∃ (A : Option Addr) (c : Nat), vals[j]? = some (.slice A (ls.getD j []).length c) ∧ ∀ (B : Nat) (w0 w : World), Hp B w0 w Rs → Rd w A (ls.getD j []).length c 1 (ints k (ls.getD j []))
theorem SlR.nil (k : IntKind) : SlR k [] [] [] := ⟨rfl, fun j hj => by simp at hj⟩
theorem SlR.snoc {k : IntKind} {Rs : List Row} {vals : List Value} {ls : List (List Int)} {A : Option Addr} {n c e : Nat} {l : List Int} {ro : Bool} (h : SlR k Rs vals ls) (hn : n = l.length) : SlR k (⟨e, 1, A, n, c, ints k l, ro⟩ :: Rs) (vals ++ [.slice A n c]) (ls ++ [l]) := by
 subst hn
 refine ⟨by simp [h.1], fun j hj => ?_⟩
 rcases Nat.lt_or_ge j ls.length with g | g
 ·obtain ⟨A', c', h1, h2⟩ := h.2 j g
  have e1 : (ls ++ [l]).getD j [] = ls.getD j [] := by
   rw [List.getD_eq_getElem?_getD, List.getD_eq_getElem?_getD, List.getElem?_append_left g]
  rw [e1]
  exact ⟨A', c', by rw [List.getElem?_append_left (by rw [h.1]; exact g)]; exact h1, fun B w0 w hw => h2 B w0 w hw.tail⟩
 ·have hjl : j = ls.length := by simp at hj; omega
  subst hjl
  have e1 : (ls ++ [l]).getD ls.length [] = l := by simp [List.getD_eq_getElem?_getD]
  rw [e1]
  refine ⟨A, c, by rw [← h.1]; simp, fun B w0 w hw => ?_⟩
  exact rdr (R := ⟨e, 1, A, l.length, c, ints k l, ro⟩ :: Rs) 0 rfl w hw
theorem SlR.at {k : IntKind} {Rs : List Row} {vals : List Value} {ls : List (List Int)} (h : SlR k Rs vals ls) {i : Int} (h0 : 0 ≤ i) (h1 : i < ls.length) : ∃ (A : Option Addr) (c : Nat), vals[i.toNat]? = some (.slice A (rdl ls i).length c) ∧ ∀ (B : Nat) (w0 w : World), Hp B w0 w Rs → Rd w A (rdl ls i).length c 1 (ints k (rdl ls i)) := h.2 i.toNat (by omega)
theorem Hp.left {w : World} {X T : List Row} (h : Hp B w0 w (X ++ T)) : Hp B w0 w X := h.sublist (List.sublist_append_left X T)
theorem Hp.toTail0 {w : World} {X Rs Y : List Row} (h : Hp B w0 w ((X ++ Rs) ++ Y)) : Hp B w0 w (X ++ (Y ++ Rs)) := by
 refine h.perm ?_
 rw [List.append_assoc]
 exact List.Perm.append_left X List.perm_append_comm
/-- Rows that came up go behind the others. -/
theorem Hp.toTail {w : World} {X Rs Y T : List Row} (h : Hp B w0 w ((X ++ Rs) ++ (Y ++ T))) : Hp B w0 w (X ++ (Y ++ (Rs ++ T))) := by
 refine h.perm ?_
 rw [List.append_assoc]
 refine List.Perm.append_left X ?_
 rw [← List.append_assoc, ← List.append_assoc]
 exact List.Perm.append_right T List.perm_append_comm
end
end Go.Eng

/-! ## E13 -/
namespace Go.Eng
open Go Go.RowKit
section
variable {P : Program} {n : Nd} {B : Nat} {w0 : World}
theorem w_loop9 {σ0 σ1 σ2 σ3 σ4 σ5 σ6 σ7 σ8 : Type} {c : Code} {Q : PostC} {L : Env} {R : List Row} (Lx : σ0 → σ1 → σ2 → σ3 → σ4 → σ5 → σ6 → σ7 → σ8 → Env) (Rx : σ0 → σ1 → σ2 → σ3 → σ4 → σ5 → σ6 → σ7 → σ8 → List Row) (J : σ0 → σ1 → σ2 → σ3 → σ4 → σ5 → σ6 → σ7 → σ8 → Prop) (μ : σ0 → σ1 → σ2 → σ3 → σ4 → σ5 → σ6 → σ7 → σ8 → Nat)
  (h0 : ∃ x0 x1 x2 x3 x4 x5 x6 x7 x8, J x0 x1 x2 x3 x4 x5 x6 x7 x8 ∧ Sub (Lx x0 x1 x2 x3 x4 x5 x6 x7 x8) L ∧ ∀ w, Hp B w0 w R → Hp B w0 w (Rx x0 x1 x2 x3 x4 x5 x6 x7 x8))
  (round : ∀ x0 x1 x2 x3 x4 x5 x6 x7 x8, J x0 x1 x2 x3 x4 x5 x6 x7 x8 → W P n B w0 c { Q with nrm := fun L' R' => ∃ y0 y1 y2 y3 y4 y5 y6 y7 y8, J y0 y1 y2 y3 y4 y5 y6 y7 y8 ∧ μ y0 y1 y2 y3 y4 y5 y6 y7 y8 < μ x0 x1 x2 x3 x4 x5 x6 x7 x8 ∧ Sub (Lx y0 y1 y2 y3 y4 y5 y6 y7 y8) L' ∧ ∀ w, Hp B w0 w R' → Hp B w0 w (Rx y0 y1 y2 y3 y4 y5 y6 y7 y8) } (Lx x0 x1 x2 x3 x4 x5 x6 x7 x8) (Rx x0 x1 x2 x3 x4 x5 x6 x7 x8)) : W P n B w0 (.loop c) Q L R := by
 obtain ⟨x0, x1, x2, x3, x4, x5, x6, x7, x8, h1, h2, h3⟩ := h0
 refine w_loop (σ := σ0 × σ1 × σ2 × σ3 × σ4 × σ5 × σ6 × σ7 × σ8) (fun p => Lx p.1 p.2.1 p.2.2.1 p.2.2.2.1 p.2.2.2.2.1 p.2.2.2.2.2.1 p.2.2.2.2.2.2.1 p.2.2.2.2.2.2.2.1 p.2.2.2.2.2.2.2.2) (fun p => Rx p.1 p.2.1 p.2.2.1 p.2.2.2.1 p.2.2.2.2.1 p.2.2.2.2.2.1 p.2.2.2.2.2.2.1 p.2.2.2.2.2.2.2.1 p.2.2.2.2.2.2.2.2) (fun p => J p.1 p.2.1 p.2.2.1 p.2.2.2.1 p.2.2.2.2.1 p.2.2.2.2.2.1 p.2.2.2.2.2.2.1 p.2.2.2.2.2.2.2.1 p.2.2.2.2.2.2.2.2) (fun p => μ p.1 p.2.1 p.2.2.1 p.2.2.2.1 p.2.2.2.2.1 p.2.2.2.2.2.1 p.2.2.2.2.2.2.1 p.2.2.2.2.2.2.2.1 p.2.2.2.2.2.2.2.2) ⟨(x0, x1, x2, x3, x4, x5, x6, x7, x8), h1, h2, h3⟩ fun p hp => w_mono (round p.1 p.2.1 p.2.2.1 p.2.2.2.1 p.2.2.2.2.1 p.2.2.2.2.2.1 p.2.2.2.2.2.2.1 p.2.2.2.2.2.2.2.1 p.2.2.2.2.2.2.2.2 hp) ?_ (fun _ _ h => h) (fun _ _ _ h => h)
 rintro L' R' ⟨y0, y1, y2, y3, y4, y5, y6, y7, y8, g1, g2, g3, g4⟩
 exact ⟨(y0, y1, y2, y3, y4, y5, y6, y7, y8), ⟨g1, g2⟩, g3, g4⟩
theorem w_loop10 {σ0 σ1 σ2 σ3 σ4 σ5 σ6 σ7 σ8 σ9 : Type} {c : Code} {Q : PostC} {L : Env} {R : List Row} (Lx : σ0 → σ1 → σ2 → σ3 → σ4 → σ5 → σ6 → σ7 → σ8 → σ9 → Env) (Rx : σ0 → σ1 → σ2 → σ3 → σ4 → σ5 → σ6 → σ7 → σ8 → σ9 → List Row) (J : σ0 → σ1 → σ2 → σ3 → σ4 → σ5 → σ6 → σ7 → σ8 → σ9 → Prop) (μ : σ0 → σ1 → σ2 → σ3 → σ4 → σ5 → σ6 → σ7 → σ8 → σ9 → Nat)
  (h0 : ∃ x0 x1 x2 x3 x4 x5 x6 x7 x8 x9, J x0 x1 x2 x3 x4 x5 x6 x7 x8 x9 ∧ Sub (Lx x0 x1 x2 x3 x4 x5 x6 x7 x8 x9) L ∧ ∀ w, Hp B w0 w R → Hp B w0 w (Rx x0 x1 x2 x3 x4 x5 x6 x7 x8 x9))
  (round : ∀ x0 x1 x2 x3 x4 x5 x6 x7 x8 x9, J x0 x1 x2 x3 x4 x5 x6 x7 x8 x9 → W P n B w0 c { Q with nrm := fun L' R' => ∃ y0 y1 y2 y3 y4 y5 y6 y7 y8 y9, J y0 y1 y2 y3 y4 y5 y6 y7 y8 y9 ∧ μ y0 y1 y2 y3 y4 y5 y6 y7 y8 y9 < μ x0 x1 x2 x3 x4 x5 x6 x7 x8 x9 ∧ Sub (Lx y0 y1 y2 y3 y4 y5 y6 y7 y8 y9) L' ∧ ∀ w, Hp B w0 w R' → Hp B w0 w (Rx y0 y1 y2 y3 y4 y5 y6 y7 y8 y9) } (Lx x0 x1 x2 x3 x4 x5 x6 x7 x8 x9) (Rx x0 x1 x2 x3 x4 x5 x6 x7 x8 x9)) : W P n B w0 (.loop c) Q L R := by
 obtain ⟨x0, x1, x2, x3, x4, x5, x6, x7, x8, x9, h1, h2, h3⟩ := h0
 refine w_loop (σ := σ0 × σ1 × σ2 × σ3 × σ4 × σ5 × σ6 × σ7 × σ8 × σ9) (fun p => Lx p.1 p.2.1 p.2.2.1 p.2.2.2.1 p.2.2.2.2.1 p.2.2.2.2.2.1 p.2.2.2.2.2.2.1 p.2.2.2.2.2.2.2.1 p.2.2.2.2.2.2.2.2.1 p.2.2.2.2.2.2.2.2.2) (fun p => Rx p.1 p.2.1 p.2.2.1 p.2.2.2.1 p.2.2.2.2.1 p.2.2.2.2.2.1 p.2.2.2.2.2.2.1 p.2.2.2.2.2.2.2.1 p.2.2.2.2.2.2.2.2.1 p.2.2.2.2.2.2.2.2.2) (fun p => J p.1 p.2.1 p.2.2.1 p.2.2.2.1 p.2.2.2.2.1 p.2.2.2.2.2.1 p.2.2.2.2.2.2.1 p.2.2.2.2.2.2.2.1 p.2.2.2.2.2.2.2.2.1 p.2.2.2.2.2.2.2.2.2) (fun p => μ p.1 p.2.1 p.2.2.1 p.2.2.2.1 p.2.2.2.2.1 p.2.2.2.2.2.1 p.2.2.2.2.2.2.1 p.2.2.2.2.2.2.2.1 p.2.2.2.2.2.2.2.2.1 p.2.2.2.2.2.2.2.2.2) ⟨(x0, x1, x2, x3, x4, x5, x6, x7, x8, x9), h1, h2, h3⟩ fun p hp => w_mono (round p.1 p.2.1 p.2.2.1 p.2.2.2.1 p.2.2.2.2.1 p.2.2.2.2.2.1 p.2.2.2.2.2.2.1 p.2.2.2.2.2.2.2.1 p.2.2.2.2.2.2.2.2.1 p.2.2.2.2.2.2.2.2.2 hp) ?_ (fun _ _ h => h) (fun _ _ _ h => h)
 rintro L' R' ⟨y0, y1, y2, y3, y4, y5, y6, y7, y8, y9, g1, g2, g3, g4⟩
 exact ⟨(y0, y1, y2, y3, y4, y5, y6, y7, y8, y9), ⟨g1, g2⟩, g3, g4⟩
theorem w_loop14 {σ0 σ1 σ2 σ3 σ4 σ5 σ6 σ7 σ8 σ9 σ10 σ11 σ12 σ13 : Type} {c : Code} {Q : PostC} {L : Env} {R : List Row} (Lx : σ0 → σ1 → σ2 → σ3 → σ4 → σ5 → σ6 → σ7 → σ8 → σ9 → σ10 → σ11 → σ12 → σ13 → Env) (Rx : σ0 → σ1 → σ2 → σ3 → σ4 → σ5 → σ6 → σ7 → σ8 → σ9 → σ10 → σ11 → σ12 → σ13 → List Row) (J : σ0 → σ1 → σ2 → σ3 → σ4 → σ5 → σ6 → σ7 → σ8 → σ9 → σ10 → σ11 → σ12 → σ13 → Prop) (μ : σ0 → σ1 → σ2 → σ3 → σ4 → σ5 → σ6 → σ7 → σ8 → σ9 → σ10 → σ11 → σ12 → σ13 → Nat)
  (h0 : ∃ x0 x1 x2 x3 x4 x5 x6 x7 x8 x9 x10 x11 x12 x13, J x0 x1 x2 x3 x4 x5 x6 x7 x8 x9 x10 x11 x12 x13 ∧ Sub (Lx x0 x1 x2 x3 x4 x5 x6 x7 x8 x9 x10 x11 x12 x13) L ∧ ∀ w, Hp B w0 w R → Hp B w0 w (Rx x0 x1 x2 x3 x4 x5 x6 x7 x8 x9 x10 x11 x12 x13))
  (round : ∀ x0 x1 x2 x3 x4 x5 x6 x7 x8 x9 x10 x11 x12 x13, J x0 x1 x2 x3 x4 x5 x6 x7 x8 x9 x10 x11 x12 x13 → W P n B w0 c { Q with nrm := fun L' R' => ∃ y0 y1 y2 y3 y4 y5 y6 y7 y8 y9 y10 y11 y12 y13, J y0 y1 y2 y3 y4 y5 y6 y7 y8 y9 y10 y11 y12 y13 ∧ μ y0 y1 y2 y3 y4 y5 y6 y7 y8 y9 y10 y11 y12 y13 < μ x0 x1 x2 x3 x4 x5 x6 x7 x8 x9 x10 x11 x12 x13 ∧ Sub (Lx y0 y1 y2 y3 y4 y5 y6 y7 y8 y9 y10 y11 y12 y13) L' ∧ ∀ w, Hp B w0 w R' → Hp B w0 w (Rx y0 y1 y2 y3 y4 y5 y6 y7 y8 y9 y10 y11 y12 y13) } (Lx x0 x1 x2 x3 x4 x5 x6 x7 x8 x9 x10 x11 x12 x13) (Rx x0 x1 x2 x3 x4 x5 x6 x7 x8 x9 x10 x11 x12 x13)) : W P n B w0 (.loop c) Q L R := by
 obtain ⟨x0, x1, x2, x3, x4, x5, x6, x7, x8, x9, x10, x11, x12, x13, h1, h2, h3⟩ := h0
 refine w_loop (σ := σ0 × σ1 × σ2 × σ3 × σ4 × σ5 × σ6 × σ7 × σ8 × σ9 × σ10 × σ11 × σ12 × σ13) (fun p => Lx p.1 p.2.1 p.2.2.1 p.2.2.2.1 p.2.2.2.2.1 p.2.2.2.2.2.1 p.2.2.2.2.2.2.1 p.2.2.2.2.2.2.2.1 p.2.2.2.2.2.2.2.2.1 p.2.2.2.2.2.2.2.2.2.1 p.2.2.2.2.2.2.2.2.2.2.1 p.2.2.2.2.2.2.2.2.2.2.2.1 p.2.2.2.2.2.2.2.2.2.2.2.2.1 p.2.2.2.2.2.2.2.2.2.2.2.2.2) (fun p => Rx p.1 p.2.1 p.2.2.1 p.2.2.2.1 p.2.2.2.2.1 p.2.2.2.2.2.1 p.2.2.2.2.2.2.1 p.2.2.2.2.2.2.2.1 p.2.2.2.2.2.2.2.2.1 p.2.2.2.2.2.2.2.2.2.1 p.2.2.2.2.2.2.2.2.2.2.1 p.2.2.2.2.2.2.2.2.2.2.2.1 p.2.2.2.2.2.2.2.2.2.2.2.2.1 p.2.2.2.2.2.2.2.2.2.2.2.2.2) (fun p => J p.1 p.2.1 p.2.2.1 p.2.2.2.1 p.2.2.2.2.1 p.2.2.2.2.2.1 p.2.2.2.2.2.2.1 p.2.2.2.2.2.2.2.1 p.2.2.2.2.2.2.2.2.1 p.2.2.2.2.2.2.2.2.2.1 p.2.2.2.2.2.2.2.2.2.2.1 p.2.2.2.2.2.2.2.2.2.2.2.1 p.2.2.2.2.2.2.2.2.2.2.2.2.1 p.2.2.2.2.2.2.2.2.2.2.2.2.2) (fun p => μ p.1 p.2.1 p.2.2.1 p.2.2.2.1 p.2.2.2.2.1 p.2.2.2.2.2.1 p.2.2.2.2.2.2.1 p.2.2.2.2.2.2.2.1 p.2.2.2.2.2.2.2.2.1 p.2.2.2.2.2.2.2.2.2.1 p.2.2.2.2.2.2.2.2.2.2.1 p.2.2.2.2.2.2.2.2.2.2.2.1 p.2.2.2.2.2.2.2.2.2.2.2.2.1 p.2.2.2.2.2.2.2.2.2.2.2.2.2) ⟨(x0, x1, x2, x3, x4, x5, x6, x7, x8, x9, x10, x11, x12, x13), h1, h2, h3⟩ fun p hp => w_mono (round p.1 p.2.1 p.2.2.1 p.2.2.2.1 p.2.2.2.2.1 p.2.2.2.2.2.1 p.2.2.2.2.2.2.1 p.2.2.2.2.2.2.2.1 p.2.2.2.2.2.2.2.2.1 p.2.2.2.2.2.2.2.2.2.1 p.2.2.2.2.2.2.2.2.2.2.1 p.2.2.2.2.2.2.2.2.2.2.2.1 p.2.2.2.2.2.2.2.2.2.2.2.2.1 p.2.2.2.2.2.2.2.2.2.2.2.2.2 hp) ?_ (fun _ _ h => h) (fun _ _ _ h => h)
 rintro L' R' ⟨y0, y1, y2, y3, y4, y5, y6, y7, y8, y9, y10, y11, y12, y13, g1, g2, g3, g4⟩
 exact ⟨(y0, y1, y2, y3, y4, y5, y6, y7, y8, y9, y10, y11, y12, y13), ⟨g1, g2⟩, g3, g4⟩
end
end Go.Eng

/-! ## K1 -/
namespace Go.Proofs.YtdfcnalkdlifiaaGreat
open Go Go.Eng Go.Pure
open Tryz
set_option linter.unusedVariables false
set_option maxRecDepth 100000 in
theorem places14_ct {w : World} {n : Int} {r : Int} (hr : 0 ≤ r ∧ r ≤ 2) (hn : 0 ≤ n ∧ n ≤ 1000000) :
  Ct Tryz.prog 151 #[.int .i64 n, .int .i64 r] w.heap.size w [] (fun v R' => ∃ A c, v = .slice A (plc n.toNat r.toNat).length c ∧ R' = [⟨3, 1, A, (plc n.toNat r.toNat).length, c, ints .i64 (plc n.toNat r.toNat), false⟩]) := by
 refine fn1 Tryz.func151 rfl rfl rfl ?_
 refine wq <| wg rfl rfl <| wr_nil <| wq <| wr_sub (R1 := [⟨3, 1, none, 0, 0, ints .i64 ([]), false⟩]) (Sub.refl _) (fun _ h => h.nil 3 1) <| wg rfl rfl <| wr_nil <| w_seq <| wq <| wm rfl rfl <| wg rfl rfl <| wr_nil ?_
 refine w_block ?_
 refine w_loop6 (fun (A1 : Option Addr) (n1 : Nat) (c1 : Nat) (a1 : List Int) (i : Int) (k : Nat) => [(0, .int .i64 n), (5, .slice A1 n1 c1), (6, .int .i64 i)]) (fun (A1 : Option Addr) (n1 : Nat) (c1 : Nat) (a1 : List Int) (i : Int) (k : Nat) => [⟨3, 1, A1, n1, c1, ints .i64 a1, false⟩]) (fun (A1 : Option Addr) (n1 : Nat) (c1 : Nat) (a1 : List Int) (i : Int) (k : Nat) => (n1 = a1.length) ∧ (i = r + 3 * k) ∧ (a1 = plcK r.toNat k) ∧ (r + 3 * (k : Int) < n + 3)) (fun (A1 : Option Addr) (n1 : Nat) (c1 : Nat) (a1 : List Int) (i : Int) (k : Nat) => (n - i).toNat) ?_ ?_
 ·
  exact ⟨none, 0, 0, [], r, 0, ⟨(rfl), (by omega), (rfl), (by omega)⟩, (sc rfl (sc rfl (sc rfl Sub.nil))), fun _ h => h⟩
 intro A1 n1 c1 a1 i k ⟨hn1, hi, hacc, hk⟩
 have hal := congrArg List.length hacc
 rw [plcK_len] at hal
 refine w_seq <| wq <| wm rfl rfl <| wm rfl rfl <| wL rfl rfl rfl <| wr_nil <| w_if rfl (fun hc1 => ?_) (fun hc1 => ?_)
 ·
  refine w_skip <| w_seq <| w_block <| w_reg <| wm rfl rfl <| wm rfl rfl <| wr_a rfl (a_litI .i64 [i] underlying24 zs3 rfl rfl rfl) ?_
  rintro _ _ ⟨g_2, rfl, rfl⟩
  refine wr_a rfl (a_appendI 1 rfl underlying24 zb3 rfl rfl rfl (rdr 0 rfl) (by omega)) ?_
  rintro _ _ ⟨A_3, c_4, rfl, rfl⟩
  refine wr_rows (R1 := [⟨3, 1, (some ⟨g_2, 0, none⟩), 1, 1, ints .i64 ([i]), false⟩, ⟨3, 1, A_3, (n1 + 1), c_4, ints .i64 (a1 ++ ([i])), false⟩]) rfl <| wr_as (v := .slice A_3 (n1 + 1) c_4) rfl <| wg rfl rfl <| wr_nil <| w_reg <| wm rfl rfl <| wA rfl rfl rfl (by omega) <| wg rfl rfl <| wr_nil ?_
  exact ⟨A_3, n1 + 1, c_4, a1 ++ ([i]), i + 3, (k + 1), ⟨(by simp only [List.length_append, hn1]; try rfl), (by omega), (by rw [plcK_snoc, ← hacc, show ((r.toNat : Nat) : Int) + 3 * (k : Int) = i by omega]), (by omega)⟩, (by omega), (sc rfl (sc rfl (sc rfl Sub.nil))), fun _ h => h.sel [1] (by decide) rfl⟩
 ·
  refine w_exit <| wq <| wm rfl rfl <| wg rfl rfl <| wr_nil <| w_retR (R1 := [⟨3, 1, A1, n1, c1, ints .i64 a1, false⟩]) (fun _ h => h.sel [0] (by decide) rfl) ?_
  refine ⟨_, rfl, ?_⟩
  obtain rfl : k = (n.toNat + 2 - r.toNat) / 3 := by omega
  subst hacc
  obtain rfl := hn1
  exact ⟨_, _, rfl, rfl⟩

set_option maxRecDepth 100000 in
theorem sample14_ct {w : World} {n : Int} (hn : 0 ≤ n ∧ n ≤ 100000) :
  Ct Tryz.prog 168 #[.int .i64 n] w.heap.size w [] (fun v R' => ∃ A c, v = .slice A (smp n.toNat).length c ∧ R' = [⟨3, 1, A, (smp n.toNat).length, c, ints .i64 (smp n.toNat), false⟩]) := by
 refine fn1 Tryz.func168 rfl rfl rfl ?_
 refine wq <| wg rfl rfl <| wr_nil <| w_seq <| wq <| wm rfl rfl <| wL rfl rfl rfl <| wm rfl rfl <| wr_mid 3 [(0, .int .i64 n), (8, .bool (decide ((n < 0) ∨ (100000 < n))))] [] ?_ ?_
 ·
  refine wr_case 5 rfl (fun hc1 => ?_) (fun hc1 => ?_)
  ·
   refine wr_no rfl rfl rfl rfl <| wr_no rfl rfl rfl rfl <| wr_y rfl (y_pickT rfl rfl) <| wr_nil ?_
   exact ⟨(sc rfl (Sub.to rfl (mb_t (by first | omega | exact ⟨fun h => ⟨(by assumption), h⟩, fun h => h.2⟩ | exact .inl (by assumption) | exact ⟨.inr, fun h => h.resolve_left (by assumption)⟩ | exact ⟨fun h => h.resolve_left (by assumption), .inr⟩ | simp [*])) Sub.nil)), fun _ h => h⟩
  ·
   refine wr_yes rfl rfl <| wm rfl rfl <| wr_yes rfl rfl <| wr_y rfl (y_gt rfl rfl) <| wr_y rfl (y_pickF rfl rfl) <| wr_nil ?_
   exact ⟨(sc rfl (Sub.to rfl (mb (by first | omega | exact ⟨fun h => ⟨(by assumption), h⟩, fun h => h.2⟩ | exact .inl (by assumption) | exact ⟨.inr, fun h => h.resolve_left (by assumption)⟩ | exact ⟨fun h => h.resolve_left (by assumption), .inr⟩ | simp [*])) Sub.nil)), fun _ h => h⟩
 refine wr_setF 8 rfl (by omega) <| wr_nil <| w_false rfl <| w_skip <| wq <| wm rfl rfl <| wr_a rfl (a_callF en151 rfl (Ct.fresh (fun w hw => places14_ct (by first | assumption | omega | decide) (by omega)))) ?_
 rintro _ _ ⟨_, rfl, A_1, c_2, rfl, rfl⟩
 refine wr_rows (R1 := [⟨3, 1, A_1, (plc n.toNat 1).length, c_2, ints .i64 (plc n.toNat 1), false⟩]) rfl <| wr_as (v := .slice A_1 ((plc n.toNat 1).length) c_2) rfl <| wm rfl rfl <| wr_a rfl (a_callF en151 rfl (Ct.fresh (fun w hw => places14_ct (by first | assumption | omega | decide) (by omega)))) ?_
 rintro _ _ ⟨_, rfl, A_4, c_5, rfl, rfl⟩
 refine wr_rows (R1 := [⟨3, 1, A_4, (plc n.toNat 2).length, c_5, ints .i64 (plc n.toNat 2), false⟩, ⟨3, 1, A_1, (plc n.toNat 1).length, c_2, ints .i64 (plc n.toNat 1), false⟩]) rfl <| wr_as (v := .slice A_4 ((plc n.toNat 2).length) c_5) rfl <| wr_a rfl (a_appendI 1 rfl underlying24 zb3 rfl rfl rfl (rdr 0 rfl) (by have := plc_len n.toNat 1; have := plc_len n.toNat 2; omega)) ?_
 rintro _ _ ⟨A_7, c_8, rfl, rfl⟩
 refine wr_rows (R1 := [⟨3, 1, A_4, (plc n.toNat 2).length, c_5, ints .i64 (plc n.toNat 2), false⟩, ⟨3, 1, A_7, (((plc n.toNat 1).length) + ((plc n.toNat 2).length)), c_8, ints .i64 ((plc n.toNat 1) ++ (plc n.toNat 2)), false⟩]) rfl <| wr_as (v := .slice A_7 (((plc n.toNat 1).length) + ((plc n.toNat 2).length)) c_8) rfl <| wg rfl rfl <| wr_nil <| w_retR (R1 := [⟨3, 1, A_7, (((plc n.toNat 1).length) + ((plc n.toNat 2).length)), c_8, ints .i64 ((plc n.toNat 1) ++ (plc n.toNat 2)), false⟩]) (fun _ h => h.sel [1] (by decide) rfl) ?_
 refine ⟨_, rfl, ?_⟩
 have e : (plc n.toNat 1).length + (plc n.toNat 2).length = (smp n.toNat).length := (List.length_append ..).symm
 rw [e]
 exact ⟨_, _, rfl, rfl⟩

set_option maxRecDepth 100000 in
theorem key14_ct {w : World} {A_s : Option Addr} {n_s c_s : Nat} {s : List Int} {i : Int} (h_s : Rd w A_s n_s c_s 1 (ints .i64 s)) (hi : 0 ≤ i) (hs : ∀ x ∈ s, 0 ≤ x ∧ x ≤ 1000000) :
  Ct Tryz.prog 170 #[.slice A_s n_s c_s, .int .i64 i] w.heap.size w [] (fun v R' => v = .int .i64 (keyF s i)) := by
 obtain rfl := h_s.lenI
 refine fn1 Tryz.func170 rfl rfl rfl ?_
 have m_s := h_s.max
 refine wq <| wg rfl rfl <| wr_nil <| w_seq <| wq <| wm rfl rfl <| wm rfl rfl <| wr_y rfl (y_len underlying24 rfl) <| wr_y rfl (y_ge rfl rfl) <| wr_nil <| w_if rfl (fun hc1 => ?_) (fun hc1 => ?_)
 ·
  refine wq <| wg rfl rfl <| wr_nil <| w_ret ?_
  refine ⟨_, rfl, ?_⟩
  exact congrArg (Value.int .i64) (by unfold keyF; rw [if_pos (by omega)])
 ·
  have hm := hs _ (rd_mem (L := s) hi (by omega))
  refine w_skip <| wq <| wm rfl rfl <| wm rfl rfl <| wr_y rfl (y_index1 underlying24 sz3 rfl rfl (h_s.c _) (by omega) (by omega)) <| wr_y rfl (y_ldI underlying3 rfl rfl (h_s.c _) (by omega) (by omega)) <| wA rfl rfl rfl (by omega) <| wg rfl rfl <| wr_nil <| w_ret ?_
  refine ⟨_, rfl, ?_⟩
  exact congrArg (Value.int .i64) (by unfold keyF; rw [if_neg (by omega)])

set_option maxRecDepth 100000 in
theorem keys14_ct {w : World} {A_s : Option Addr} {n_s c_s : Nat} {s : List Int} {b : Int} (h_s : Rd w A_s n_s c_s 1 (ints .i64 s)) (hb : 0 ≤ b ∧ b ≤ 2) (hs : ∀ x ∈ s, 0 ≤ x ∧ x ≤ 1000000) (hN : s.length ≤ 1000000) :
  Ct Tryz.prog 153 #[.slice A_s n_s c_s, .int .i64 b] w.heap.size w [] (fun v R' => ∃ A c, v = .slice A (s.length) c ∧ R' = [⟨3, 1, A, s.length, c, ints .i64 (keysL s b), false⟩]) := by
 obtain rfl := h_s.lenI
 refine fn1 Tryz.func153 rfl rfl rfl ?_
 have m_s := h_s.max
 refine wq <| wg rfl rfl <| wr_nil <| wq <| wm rfl rfl <| wr_y rfl (y_len underlying24 rfl) <| wr_a rfl (a_makeN underlying24 zb3 rfl rfl (by omega) (by omega) (by omega)) ?_
 rintro _ _ ⟨g_1, rfl, rfl⟩
 refine wr_rows (R1 := [⟨3, 1, (some ⟨g_1, 0, none⟩), s.length, s.length, ints .i64 (List.replicate s.length (0 : Int)), false⟩]) rfl <| wr_as (v := .slice (some ⟨g_1, 0, none⟩) s.length s.length) rfl <| wg rfl rfl <| wr_nil <| w_seq <| wq <| wm rfl rfl <| wr_y rfl (y_len underlying24 rfl) <| wm rfl rfl <| wr_nil <| w_block ?_
 refine w_loop2 (fun (i : Int) (V : List Int) => [(0, .slice A_s s.length c_s), (1, .int .i64 b), (5, .slice (some ⟨g_1, 0, none⟩) s.length s.length), (11, .int .i64 ((s.length : Nat) : Int)), (12, .int .i64 i)]) (fun (i : Int) (V : List Int) => [⟨3, 1, (some ⟨g_1, 0, none⟩), s.length, s.length, ints .i64 V, false⟩]) (fun (i : Int) (V : List Int) => (0 ≤ i) ∧ (i ≤ s.length) ∧ (V.length = s.length) ∧ (∀ j : Int, 0 ≤ j → j < i → rd V j = keyF s (j + b))) (fun (i : Int) (V : List Int) => (s.length - i).toNat) ?_ ?_
 ·
  exact ⟨0, List.replicate s.length (0 : Int), ⟨(by omega), (by omega), (by rw [List.length_replicate]), (fun j h1 h2 => by omega)⟩, (sc rfl (sc rfl (sc rfl (sc rfl (sc rfl Sub.nil))))), fun _ h => h⟩
 intro i V ⟨hi0, hi1, hVl, hV⟩
 refine wq <| wL rfl rfl rfl <| wr_nil <| w_seq <| w_if rfl (fun hc1 => ?_) (fun hc1 => ?_)
 ·
  refine w_skip <| w_seq <| w_block <| wq <| wm rfl rfl <| wg rfl rfl <| wr_nil <| w_reg <| wm rfl rfl <| wm rfl rfl <| wm rfl rfl <| wm rfl rfl <| wm rfl rfl <| wA rfl rfl rfl (by omega) ?_
  refine wr_a rfl (a_callF en170 rfl (Ct.quiet (fun w hw => key14_ct ((h_s.c _) w hw) (by omega) (by first | assumption | omega | decide)))) ?_
  rintro _ _ ⟨rfl, rfl⟩
  refine wr_y rfl (y_index1 underlying24 sz3 rfl rfl (rdr 0 rfl) (by omega) (by omega)) <| wr_n (a_storeI 0 rfl sz3 rfl rfl (by omega) (by omega)) ?_
  rintro _ _ rfl
  refine wr_rows (R1 := [⟨3, 1, (some ⟨g_1, 0, none⟩), s.length, s.length, ints .i64 (upd V i (keyF s (i + b))), false⟩]) rfl <| wr_nil <| w_reg <| wA rfl rfl rfl (by omega) <| wm rfl rfl <| wr_nil ?_
  exact ⟨i + 1, upd V i (keyF s (i + b)), ⟨(by omega), (by omega), (by rw [upd_length]; exact hVl), (fill_step (f := fun j => keyF s (j + b)) hi0 (by omega) hV rfl)⟩, (by omega), (sc rfl (sc rfl (sc rfl (sc rfl (sc rfl Sub.nil))))), fun _ h => h⟩
 ·
  refine w_exit <| wq <| wm rfl rfl <| wg rfl rfl <| wr_nil <| w_retR (R1 := [⟨3, 1, (some ⟨g_1, 0, none⟩), s.length, s.length, ints .i64 V, false⟩]) (fun _ h => h.sel [0] (by decide) rfl) ?_
  refine ⟨_, rfl, ?_⟩
  obtain rfl : V = keysL s b := keysL_of hVl (fun j h1 h2 => hV j h1 (by omega))
  exact ⟨_, _, rfl, rfl⟩

set_option maxRecDepth 100000 in
theorem alike14_ct {w : World} {A_s : Option Addr} {n_s c_s : Nat} {s : List Int} {i : Int} {j : Int} (h_s : Rd w A_s n_s c_s 1 (ints .i64 s)) (hi : 0 ≤ i ∧ i ≤ 1000000) (hj : 0 ≤ j ∧ j ≤ 1000000) (hs : ∀ x ∈ s, 0 ≤ x ∧ x ≤ 1000000) :
  Ct Tryz.prog 169 #[.slice A_s n_s c_s, .int .i64 i, .int .i64 j] w.heap.size w [] (fun v R' => v = .bool (decide (alkP s i j))) := by
 obtain rfl := h_s.lenI
 refine fn1 Tryz.func169 rfl rfl rfl ?_
 have m_s := h_s.max
 refine wq <| wg rfl rfl <| wr_nil <| w_seq <| wq <| wm rfl rfl <| wr_nil <| w_block ?_
 refine w_loop1 (fun (b : Int) => [(0, .slice A_s s.length c_s), (1, .int .i64 i), (2, .int .i64 j), (8, .int .i64 b)]) (fun (b : Int) => []) (fun (b : Int) => (0 ≤ b) ∧ (b ≤ 3) ∧ (∀ c : Int, 0 ≤ c → c < b → keyF s (i + c) = keyF s (j + c))) (fun (b : Int) => (3 - b).toNat) ?_ ?_
 ·
  exact ⟨0, ⟨(by omega), (by omega), (fun c h1 h2 => by omega)⟩, (sc rfl (sc rfl (sc rfl (sc rfl Sub.nil)))), fun _ h => h⟩
 intro b ⟨hb0, hb3, hk⟩
 refine wq <| wL rfl rfl rfl <| wr_nil <| w_seq <| w_if rfl (fun hc1 => ?_) (fun hc1 => ?_)
 ·
  refine w_skip <| w_seq <| w_block <| wq <| wm rfl rfl <| wg rfl rfl <| wr_nil <| wq <| wm rfl rfl <| wm rfl rfl <| wm rfl rfl <| wA rfl rfl rfl (by omega) <| wr_a rfl (a_callF en170 rfl (Ct.quiet (fun w hw => key14_ct ((h_s.c _) w hw) (by omega) (by first | assumption | omega | decide)))) ?_
  rintro _ _ ⟨rfl, rfl⟩
  refine wm rfl rfl <| wm rfl rfl <| wm rfl rfl <| wA rfl rfl rfl (by omega) <| wr_a rfl (a_callF en170 rfl (Ct.quiet (fun w hw => key14_ct ((h_s.c _) w hw) (by omega) (by first | assumption | omega | decide)))) ?_
  rintro _ _ ⟨rfl, rfl⟩
  refine wr_y rfl (y_ne rfl rfl) <| wr_nil <| w_if rfl (fun hc2 => ?_) (fun hc2 => ?_)
  ·
   refine wq <| wg rfl rfl <| wr_nil <| w_ret ?_
   refine ⟨_, rfl, ?_⟩
   exact congrArg Value.bool (decide_eq_false (alkP_not hb0 (by omega) hc2)).symm
  ·
   refine w_skip <| w_reg <| wA rfl rfl rfl (by omega) <| wm rfl rfl <| wr_nil ?_
   exact ⟨b + 1, ⟨(by omega), (by omega), (fun c h1 h2 => (Int.lt_or_le c b).elim (hk c h1) fun g => by rw [show c = b by omega]; exact Decidable.not_not.1 hc2)⟩, (by omega), (sc rfl (sc rfl (sc rfl (sc rfl Sub.nil)))), fun _ h => h⟩
 ·
  refine w_exit <| wq <| wg rfl rfl <| wr_nil <| w_ret ?_
  refine ⟨_, rfl, ?_⟩
  exact congrArg Value.bool (decide_eq_true (alkP_of fun c h1 h2 => hk c h1 (by omega))).symm

set_option maxRecDepth 100000 in
theorem less14_ct {w : World} {A_s : Option Addr} {n_s c_s : Nat} {s : List Int} {A_rk : Option Addr} {n_rk c_rk : Nat} {rk : List Int} {i : Int} {j : Int} {o : List Int} (h_s : Rd w A_s n_s c_s 1 (ints .i64 s)) (h_rk : Rd w A_rk n_rk c_rk 1 (ints .i64 rk)) (hR : RkO s o rk) (hi : (0 ≤ i ∧ i < s.length) ∧ i % 3 ≠ 0) (hj : (0 ≤ j ∧ j < s.length) ∧ j % 3 = 0) (hs : ∀ x ∈ s, 0 ≤ x ∧ x ≤ 1000000) (hN : s.length ≤ 1000000) :
  Ct Tryz.prog 154 #[.slice A_s n_s c_s, .slice A_rk n_rk c_rk, .int .i64 i, .int .i64 j] w.heap.size w [] (fun v R' => v = .bool (decide (cmpL (s.drop i.toNat) (s.drop j.toNat) < 0))) := by
 obtain rfl := h_s.lenI
 obtain rfl := h_rk.lenI
 refine fn1 Tryz.func154 rfl rfl rfl ?_
 have m_s := h_s.max
 have m_rk := h_rk.max
 have nn : Nn s := fun x hx => (hs x hx).1
 refine wq <| wg rfl rfl <| wr_nil <| w_block ?_
 refine w_loop3 (fun (p : Int) (q : Int) (c : Nat) => [(0, .slice A_s s.length c_s), (1, .slice A_rk rk.length c_rk), (2, .int .i64 p), (3, .int .i64 q)]) (fun (p : Int) (q : Int) (c : Nat) => []) (fun (p : Int) (q : Int) (c : Nat) => (p = i + c) ∧ (q = j + c) ∧ (EqH c (eu s i.toNat) (eu s j.toNat)) ∧ (c = 0 ∨ c = 1 ∧ i % 3 = 2)) (fun (p : Int) (q : Int) (c : Nat) => 2 - c) ?_ ?_
 ·
  exact ⟨i, j, 0, ⟨(by omega), (by omega), (fun d hd => by omega), (.inl rfl)⟩, (sc rfl (sc rfl (sc rfl (sc rfl Sub.nil)))), fun _ h => h⟩
 intro p q c ⟨hp, hq, he, hc⟩
 have hcc : c ≤ 1 := by omega
 have hVl := hR.len
 refine w_block <| w_seq <| wq <| wm rfl rfl <| wm rfl rfl <| wr_a rfl (a_callF en170 rfl (Ct.quiet (fun w hw => key14_ct ((h_s.c _) w hw) (by omega) (by first | assumption | omega | decide)))) ?_
 rintro _ _ ⟨rfl, rfl⟩
 refine wm rfl rfl <| wm rfl rfl <| wr_a rfl (a_callF en170 rfl (Ct.quiet (fun w hw => key14_ct ((h_s.c _) w hw) (by omega) (by first | assumption | omega | decide)))) ?_
 rintro _ _ ⟨rfl, rfl⟩
 refine wg rfl rfl <| wg rfl rfl <| wr_nil <| wq <| wm rfl rfl <| wm rfl rfl <| wr_y rfl (y_ne rfl rfl) <| wr_nil <| w_if rfl (fun hc1 => ?_) (fun hc1 => ?_)
 ·
  refine wq <| wm rfl rfl <| wm rfl rfl <| wL rfl rfl rfl <| wg rfl rfl <| wr_nil <| w_ret ?_
  refine ⟨_, rfl, ?_⟩
  exact congrArg Value.bool (decide_eq_decide.2 (by subst hp hq; rw [ordE_cmp]; exact less_key nn hi.1.1 hj.1.1 he hc1))
 ·
  have he2 := less_eq nn hi.1.1 hj.1.1 he (by rw [← hp, ← hq]; exact Decidable.not_not.1 hc1)
  refine w_skip <| wq <| wm rfl rfl <| wA rfl rfl rfl (by omega) <| wm rfl rfl <| wA rfl rfl rfl (by omega) <| wg rfl rfl <| wg rfl rfl <| wr_nil <| wq <| wm rfl rfl <| wr_y rfl (y_rem rfl rfl (by omega) (by omega)) <| wr_y rfl (y_ne rfl rfl) ?_
  refine wm rfl rfl <| wr_mid 4 [(0, .slice A_s s.length c_s), (1, .slice A_rk rk.length c_rk), (2, .int .i64 (p + 1)), (3, .int .i64 (q + 1)), (34, .bool (decide ((((p + 1) % 3) ≠ 0) ∧ (((q + 1) % 3) ≠ 0))))] [] ?_ ?_
  ·
   refine wr_case 30 rfl (fun hc2 => ?_) (fun hc2 => ?_)
   ·
    refine wr_yes rfl rfl <| wm rfl rfl <| wr_yes rfl rfl <| wr_y rfl (y_rem rfl rfl (by omega) (by omega)) <| wr_yes rfl rfl <| wr_y rfl (y_ne rfl rfl) <| wr_y rfl (y_pickT rfl rfl) <| wr_nil ?_
    exact ⟨(sc rfl (sc rfl (sc rfl (sc rfl (Sub.to rfl (mb (by first | omega | exact ⟨fun h => ⟨(by assumption), h⟩, fun h => h.2⟩ | exact .inl (by assumption) | exact ⟨.inr, fun h => h.resolve_left (by assumption)⟩ | exact ⟨fun h => h.resolve_left (by assumption), .inr⟩ | simp [*])) Sub.nil))))), fun _ h => h⟩
   ·
    refine wr_no rfl rfl rfl rfl <| wr_no rfl rfl rfl rfl <| wr_no rfl rfl rfl rfl <| wr_y rfl (y_pickF rfl rfl) <| wr_nil ?_
    exact ⟨(sc rfl (sc rfl (sc rfl (sc rfl (Sub.to rfl (mb_f (by first | omega | exact ⟨fun h => ⟨(by assumption), h⟩, fun h => h.2⟩ | exact .inl (by assumption) | exact ⟨.inr, fun h => h.resolve_left (by assumption)⟩ | exact ⟨fun h => h.resolve_left (by assumption), .inr⟩ | simp [*])) Sub.nil))))), fun _ h => h⟩
  refine wr_nil <| w_if rfl (fun hc3 => ?_) (fun hc3 => ?_)
  ·
   have hlr := less_rank hR hi.1 hj.1 (by omega) he2 (by omega) (by omega)
   rw [show i + ((c + 1 : Nat) : Int) = p + 1 by omega, show j + ((c + 1 : Nat) : Int) = q + 1 by omega] at hlr
   refine w_seq <| w_regd mixed <| wd_y 0 rfl (by kernel_rfl) rfl (y_move rfl) <| wd_y 1 rfl (by kernel_rfl) rfl (y_move rfl) <| wd_y 2 rfl (by kernel_rfl) rfl (y_move rfl) <| wd_y 3 rfl (by kernel_rfl) rfl (y_len underlying24 rfl) <| wd_y 4 rfl (by kernel_rfl) rfl (y_min rfl rfl) <| wd_y 5 rfl (by kernel_rfl) rfl (y_index1 underlying24 sz3 rfl rfl (h_rk.c _) (by omega) (by omega)) <| wd_y 6 rfl (by kernel_rfl) rfl (y_ldI underlying3 rfl rfl (h_rk.c _) (by omega) (by omega)) <| wd_y 7 rfl (by kernel_rfl) rfl (y_move rfl) <| wd_y 8 rfl (by kernel_rfl) rfl (y_move rfl) <| wd_y 9 rfl (by kernel_rfl) rfl (y_move rfl) <| wd_y 10 rfl (by kernel_rfl) rfl (y_len underlying24 rfl) <| wd_y 11 rfl (by kernel_rfl) rfl (y_min rfl rfl) <| wd_y 12 rfl (by kernel_rfl) rfl (y_index1 underlying24 sz3 rfl rfl (h_rk.c _) (by omega) (by omega)) ?_
   refine wd_y 13 rfl (by kernel_rfl) rfl (y_ldI underlying3 rfl rfl (h_rk.c _) (by omega) (by omega)) <| wd_y 14 rfl (by kernel_rfl) rfl (y_lt rfl rfl) <| wd_y 15 rfl (by kernel_rfl) rfl (y_assign rfl) <| wd_nil (by kernel_rfl) <| w_ret ?_
   refine ⟨_, rfl, ?_⟩
   exact congrArg Value.bool (decide_eq_decide.2 (by rw [ordE_cmp, Int.min_eq_left hlr.1.1, Int.min_eq_left hlr.1.2]; exact hlr.2))
  ·
   refine w_skip ?_
   exact ⟨p + 1, q + 1, (c + 1), ⟨(by omega), (by omega), (he2), (by omega)⟩, (by omega), (sc rfl (sc rfl (sc rfl (sc rfl Sub.nil)))), fun _ h => h⟩

set_option maxRecDepth 100000 in
set_option maxHeartbeats 4000000 in
theorem rankedStep_ct {w : World} {A_s : Option Addr} {n_s c_s : Nat} {s : List Int} {k : Int} (h_s : Rd w A_s n_s c_s 1 (ints .i64 s)) (IH : ∀ {w : World} {A_t : Option Addr} {n_t c_t : Nat} {t : List Int} {j : Int}, Rd w A_t n_t c_t 1 (ints .i64 t) → t.length < s.length → ((0 ≤ j ∧ j ≤ 1000000) ∧ ∀ x ∈ t, 0 ≤ x ∧ x < j) → t.length ≤ 100000 → Ct Tryz.prog 138 #[.slice A_t n_t c_t, .int .i64 j] w.heap.size w [] (fun v R' => ∃ (b : List Int) (A : Option Addr) (c : Nat), v = .slice A t.length c ∧ b.Perm (iota t.length) ∧ b.Pairwise (ordE t) ∧ R' = [⟨3, 1, A, t.length, c, ints .i64 b, false⟩])) (hok : (0 ≤ k ∧ k ≤ 1000000) ∧ ∀ x ∈ s, 0 ≤ x ∧ x < k) (hN : s.length ≤ 100000) (h2 : 2 ≤ s.length) :
  Ct Tryz.prog 152 #[.slice A_s n_s c_s, .int .i64 k] w.heap.size w [] (fun v R' => ∃ (o V : List Int) (A A' : Option Addr) (c c' m : Nat), v = .tuple #[.slice A o.length c, .slice A' m c'] ∧ m = V.length ∧ RkO s o V ∧ (∀ (B : Nat) (w0 w : World), Hp B w0 w R' → Rd w A o.length c 1 (ints .i64 o)) ∧ ∀ (B : Nat) (w0 w : World), Hp B w0 w R' → Rd w A' V.length c' 1 (ints .i64 V)) := by
 obtain rfl := h_s.lenI
 refine fn2 Tryz.func152 rfl rfl rfl ?_
 have m_s := h_s.max
 have nn : Nn s := fun x hx => (hok.2 x hx).1
 have hs1 : ∀ x ∈ s, 0 ≤ x ∧ x ≤ 1000000 := fun x hx => by have := hok.2 x hx; omega
 have lp1 := plc_len s.length 1
 have lp2 := plc_len s.length 2
 have lsm := smp_len s.length
 refine wq <| wr_sub (R1 := (⟨3, 1, none, 0, 0, ints .i64 ([]), false⟩ :: [])) (Sub.refl _) (fun _ h => h.nil 3 1) <| wg rfl rfl <| wg rfl rfl <| wr_nil <| wq <| wm rfl rfl <| wr_y rfl (y_len underlying24 rfl) <| wr_a rfl (a_callF en168 rfl (Ct.fresh (fun w hw => sample14_ct (by omega)))) ?_
 rintro _ _ ⟨_, rfl, A_1, c_2, rfl, rfl⟩
 refine wr_rows (R1 := (⟨3, 1, A_1, (smp s.length).length, c_2, ints .i64 (smp s.length), false⟩ :: ⟨3, 1, none, 0, 0, ints .i64 ([]), false⟩ :: [])) rfl <| wr_as (v := .slice A_1 ((smp s.length).length) c_2) rfl <| wg rfl rfl <| wr_nil <| wq <| wm rfl rfl <| wg rfl rfl <| wr_nil <| w_seq <| wq <| wg rfl rfl <| wr_nil <| w_block ?_
 refine w_loop10 (fun (b : Int) (A1 : Option Addr) (n1 : Nat) (c1 : Nat) (O : List Int) (A6 : Option Addr) (n6 : Nat) (c6 : Nat) (j : Nat) (Rs : List Row) => [(0, .slice A_s s.length c_s), (1, .int .i64 k), (4, .slice A1 n1 c1), (6, .slice A6 n6 c6), (7, .int .i64 b)]) (fun (b : Int) (A1 : Option Addr) (n1 : Nat) (c1 : Nat) (O : List Int) (A6 : Option Addr) (n6 : Nat) (c6 : Nat) (j : Nat) (Rs : List Row) => (⟨3, 1, none, 0, 0, ints .i64 ([]), false⟩ :: Rs)) (fun (b : Int) (A1 : Option Addr) (n1 : Nat) (c1 : Nat) (O : List Int) (A6 : Option Addr) (n6 : Nat) (c6 : Nat) (j : Nat) (Rs : List Row) => (b = 2 - j) ∧ (j ≤ 3) ∧ (O = triK s k j) ∧ (n1 = O.length) ∧ (n6 = (smp s.length).length) ∧ (∀ (B : Nat) (w0 w : World), Hp B w0 w Rs → Rd w A1 n1 c1 1 (ints .i64 O)) ∧ (∀ (B : Nat) (w0 w : World), Hp B w0 w Rs → Rd w A6 n6 c6 1 (ints .i64 (smp s.length)))) (fun (b : Int) (A1 : Option Addr) (n1 : Nat) (c1 : Nat) (O : List Int) (A6 : Option Addr) (n6 : Nat) (c6 : Nat) (j : Nat) (Rs : List Row) => (b + 1).toNat) ?_ ?_
 ·
  exact ⟨2, A_1, (smp s.length).length, c_2, (smp s.length), A_1, (smp s.length).length, c_2, 0, (⟨3, 1, A_1, (smp s.length).length, c_2, ints .i64 (smp s.length), false⟩ :: []), ⟨(by omega), (by omega), (rfl), (rfl), (rfl), (fun B w0 w h => rdr 0 rfl w h), (fun B w0 w h => rdr 0 rfl w h)⟩, (sc rfl (sc rfl (sc rfl (sc rfl (sc rfl Sub.nil))))), fun _ h => h.selR (F := [_, _]) (F' := [_, _]) [1, 0] (by decide) rfl⟩
 intro b A1 n1 c1 O A6 n6 c6 j Rs ⟨hj, hj3, hO, hn1, hn6, h4, h6⟩
 have hOp := triK_perm hok.2 hok.1.1 j hj3
 rw [← hO] at hOp
 have hOl := hOp.length_eq
 rw [smp_len] at hOl
 refine w_seq <| wq <| wm rfl rfl <| wr_y rfl (y_ge rfl rfl) <| wr_nil <| w_if rfl (fun hc1 => ?_) (fun hc1 => ?_)
 ·
  have hb2 : 0 ≤ b ∧ b ≤ 2 := by omega
  have hpl : O.length = (passK O (keysL s b) (k + 1).toNat).length := ((pass_perm hok.2 hok.1.1 hb2.1 (fun x hx => smp_in (hOp.subset hx))).length_eq).symm
  refine w_skip <| w_seq <| w_block <| w_reg <| wm rfl rfl <| wm rfl rfl <| wm rfl rfl <| wr_a rfl (a_callF en153 rfl (Ct.fresh (fun w hw => keys14_ct ((h_s.c _) w hw) (by omega) hs1 (by omega)))) ?_
  rintro _ _ ⟨_, rfl, A_3, c_4, rfl, rfl⟩
  refine wm rfl rfl <| wA rfl rfl rfl (by omega) <| wr_a rfl (a_callF en66 rfl (Ct.fresh (fun w hw => pass_ct ((fun _ h => h4 _ _ _ (h.right (R' := [_, _]))) w hw) ((rdr 0 rfl) w hw) (by omega) (keysL_bd hok.2 hok.1.1 (by omega)) (fun x hx => by have := smp_in (hOp.subset hx); rw [keysL_len]; omega) (by omega)))) ?_
  rintro _ _ ⟨_, rfl, A_5, c_6, rfl, rfl⟩
  refine wm rfl rfl <| wX rfl rfl rfl <| wX rfl rfl rfl <| wg rfl rfl <| wr_nil <| w_reg <| wm rfl rfl <| wS rfl rfl rfl (by omega) <| wg rfl rfl <| wr_nil ?_
  exact ⟨b - 1, A_5, (O).length, c_6, (passK O (keysL s b) (k + 1).toNat), A6, n6, c6, (j + 1), (⟨3, 1, A_5, ((O).length), c_6, ints .i64 (passK O (keysL s b) ((k + 1)).toNat), false⟩ :: Rs), ⟨(by omega), (by omega), (by rw [hO, hj]; rfl), (hpl), (hn6), (fun B w0 w h => rdr 0 rfl w h), (fun B w0 w h => h6 B w0 w h.tail)⟩, (by omega), (sc rfl (sc rfl (sc rfl (sc rfl (sc rfl Sub.nil))))), fun _ h => h.selR (F := [_, _, _]) (F' := [_, _]) [2, 0] (by decide) rfl⟩
 ·
  have hO3 : O = tri3 s k := by rw [hO, show j = 3 by omega]; rfl
  have hOs := tri_sorted hok.2 hok.1.1
  rw [← hO3] at hOs
  refine w_exit <| wq <| wm rfl rfl <| wr_y rfl (y_len underlying24 rfl) <| wA rfl rfl rfl (by omega) <| wr_a rfl (a_makeN underlying24 zb3 rfl rfl (by omega) (by omega) (by omega)) ?_
  rintro _ _ ⟨g_9, rfl, rfl⟩
  refine wr_rows (R1 := (⟨3, 1, (some ⟨g_9, 0, none⟩), ((((s.length : Nat) : Int) + 3).toNat), ((((s.length : Nat) : Int) + 3).toNat), ints .i64 (List.replicate ((((s.length : Nat) : Int) + 3).toNat) (0 : Int)), false⟩ :: ⟨3, 1, none, 0, 0, ints .i64 ([]), false⟩ :: Rs)) rfl <| wr_as (v := .slice (some ⟨g_9, 0, none⟩) ((((s.length : Nat) : Int) + 3).toNat) ((((s.length : Nat) : Int) + 3).toNat)) rfl <| wg rfl rfl <| wr_nil <| wq <| wg rfl rfl <| wr_nil <| w_seq <| wq <| wm rfl rfl <| wr_y rfl (y_len underlying24 rfl) <| wm rfl rfl <| wr_nil ?_
  refine w_block ?_
  refine w_loop3 (fun (q : Int) (n : Int) (V : List Int) => [(0, .slice A_s s.length c_s), (4, .slice A1 n1 c1), (5, .slice (some ⟨g_9, 0, none⟩) ((((s.length : Nat) : Int) + 3).toNat) ((((s.length : Nat) : Int) + 3).toNat)), (6, .slice A6 n6 c6), (8, .int .i64 n), (43, .slice A1 n1 c1), (44, .int .i64 ((n1 : Nat) : Int)), (45, .int .i64 q)]) (fun (q : Int) (n : Int) (V : List Int) => (⟨3, 1, (some ⟨g_9, 0, none⟩), ((((s.length : Nat) : Int) + 3).toNat), ((((s.length : Nat) : Int) + 3).toNat), ints .i64 V, false⟩ :: ⟨3, 1, none, 0, 0, ints .i64 ([]), false⟩ :: Rs)) (fun (q : Int) (n : Int) (V : List Int) => (0 ≤ q) ∧ (q ≤ O.length) ∧ (RkI s O V q n)) (fun (q : Int) (n : Int) (V : List Int) => (O.length - q).toNat) ?_ ?_
  ·
   exact ⟨0, 0, List.replicate ((((s.length : Nat) : Int) + 3).toNat) (0 : Int), ⟨(by omega), (by omega), (by rw [show (((s.length : Nat) : Int) + 3).toNat = s.length + 3 by omega]; exact rkI_zero)⟩, (sc rfl (sc rfl (sc rfl (sc rfl (sc rfl (sc rfl (sc rfl (sc rfl Sub.nil)))))))), fun _ h => h⟩
  intro q n V ⟨hq0, hq1, hI⟩
  have hVl := hI.len
  have hnq := hI.nq
  have hn0 := hI.n0
  refine wq <| wL rfl rfl rfl <| wr_nil <| w_seq <| w_if rfl (fun hc2 => ?_) (fun hc2 => ?_)
  ·
   have hOq : 0 ≤ q → ∀ p : Int, 0 ≤ p → p < O.length → 0 ≤ rd O p ∧ rd O p < s.length := fun _ p a b => smp_in (hOp.subset (rd_mem a b))
   refine w_skip <| w_seq <| w_block <| wq <| wm rfl rfl <| wr_y rfl (y_index1 underlying24 sz3 rfl rfl (fun _ h => h4 _ _ _ (h.right (R' := [_, _]))) (by omega) (by omega)) <| wr_y rfl (y_ldI underlying3 rfl rfl (fun _ h => h4 _ _ _ (h.right (R' := [_, _]))) (by omega) (by omega)) <| wg rfl rfl <| wg rfl rfl <| wr_nil <| w_seq <| wq <| wm rfl rfl ?_
   refine wr_y rfl (y_eq rfl rfl) <| wm rfl rfl <| wr_mid 10 [(0, .slice A_s s.length c_s), (4, .slice A1 n1 c1), (5, .slice (some ⟨g_9, 0, none⟩) ((((s.length : Nat) : Int) + 3).toNat) ((((s.length : Nat) : Int) + 3).toNat)), (6, .slice A6 n6 c6), (8, .int .i64 n), (10, .int .i64 (rd O q)), (43, .slice A1 n1 c1), (44, .int .i64 ((n1 : Nat) : Int)), (45, .int .i64 q), (62, .bool (decide ((q = 0) ∨ (¬ (alkP s (rd O (q - 1)) (rd O q))))))] (⟨3, 1, (some ⟨g_9, 0, none⟩), ((((s.length : Nat) : Int) + 3).toNat), ((((s.length : Nat) : Int) + 3).toNat), ints .i64 V, false⟩ :: ⟨3, 1, none, 0, 0, ints .i64 ([]), false⟩ :: Rs) ?_ ?_
   ·
    refine wr_case 52 rfl (fun hc3 => ?_) (fun hc3 => ?_)
    ·
     refine wr_no rfl rfl rfl rfl <| wr_no rfl rfl rfl rfl <| wr_no rfl rfl rfl rfl <| wr_no rfl rfl rfl rfl <| wr_no rfl rfl rfl rfl <| wr_no rfl rfl rfl rfl <| wr_no rfl rfl rfl rfl <| wr_no rfl rfl rfl rfl <| wr_no rfl rfl rfl rfl <| wr_y rfl (y_pickT rfl rfl) <| wr_nil ?_
     exact ⟨(sc rfl (sc rfl (sc rfl (sc rfl (sc rfl (sc rfl (sc rfl (sc rfl (sc rfl (Sub.to rfl (mb_t (by first | omega | exact ⟨fun h => ⟨(by assumption), h⟩, fun h => h.2⟩ | exact .inl (by assumption) | exact ⟨.inr, fun h => h.resolve_left (by assumption)⟩ | exact ⟨fun h => h.resolve_left (by assumption), .inr⟩ | simp [*])) Sub.nil)))))))))), fun _ h => h⟩
    ·
     refine wr_yes rfl rfl <| wm rfl rfl <| wr_yes rfl rfl <| wm rfl rfl <| wr_yes rfl rfl <| wm rfl rfl <| wr_yes rfl rfl <| wS rfl rfl rfl (by omega) <| wr_yes rfl rfl <| wr_y rfl (y_index1 underlying24 sz3 rfl rfl (fun _ h => h4 _ _ _ (h.right (R' := [_, _]))) (by omega) (by omega)) <| wr_yes rfl rfl <| wr_y rfl (y_ldI underlying3 rfl rfl (fun _ h => h4 _ _ _ (h.right (R' := [_, _]))) (by omega) (by omega)) <| wr_yes rfl rfl <| wm rfl rfl <| wr_yes rfl rfl ?_
     refine wr_a rfl (a_callF en169 rfl (Ct.quiet (fun w hw => alike14_ct ((h_s.c _) w hw) (by have := hOq hq0 (q - 1) (by omega) (by omega); omega) (by have := hOq hq0 q (by omega) (by omega); omega) hs1))) ?_
     rintro _ _ ⟨rfl, rfl⟩
     refine wr_yes rfl rfl <| wr_y rfl (y_notD rfl) <| wr_y rfl (y_pickF rfl rfl) <| wr_nil ?_
     exact ⟨(sc rfl (sc rfl (sc rfl (sc rfl (sc rfl (sc rfl (sc rfl (sc rfl (sc rfl (Sub.to rfl (mb (by first | omega | exact ⟨fun h => ⟨(by assumption), h⟩, fun h => h.2⟩ | exact .inl (by assumption) | exact ⟨.inr, fun h => h.resolve_left (by assumption)⟩ | exact ⟨fun h => h.resolve_left (by assumption), .inr⟩ | simp [*])) Sub.nil)))))))))), fun _ h => h⟩
   refine wr_nil <| w_if rfl (fun hc4 => ?_) (fun hc4 => ?_)
   ·
    refine w_reg <| wm rfl rfl <| wA rfl rfl rfl (by omega) <| wg rfl rfl <| wr_nil <| w_reg <| wm rfl rfl <| wm rfl rfl <| wm rfl rfl <| wr_y rfl (y_index1 underlying24 sz3 rfl rfl (rdr 0 rfl) (by have := hOq hq0 q (by omega) (by omega); omega) (by have := hOq hq0 q (by omega) (by omega); omega)) ?_
    refine wr_n (a_storeI 0 rfl sz3 rfl rfl (by have := hOq hq0 q (by omega) (by omega); omega) (by have := hOq hq0 q (by omega) (by omega); omega)) ?_
    rintro _ _ rfl
    refine wr_rows (R1 := (⟨3, 1, (some ⟨g_9, 0, none⟩), ((((s.length : Nat) : Int) + 3).toNat), ((((s.length : Nat) : Int) + 3).toNat), ints .i64 (upd V (rd O q) (n + 1)), false⟩ :: ⟨3, 1, none, 0, 0, ints .i64 ([]), false⟩ :: Rs)) rfl <| wr_nil <| w_reg <| wA rfl rfl rfl (by omega) <| wm rfl rfl <| wr_nil ?_
    exact ⟨q + 1, n + 1, upd V (rd O q) (n + 1), ⟨(by omega), (by omega), (hI.step hOp hq0 (by omega) (.inl ⟨rfl, new_lt nn hOp hOs hq0 (by omega) hc4⟩))⟩, (by omega), (sc rfl (sc rfl (sc rfl (sc rfl (sc rfl (sc rfl (sc rfl (sc rfl Sub.nil)))))))), fun _ h => h⟩
   ·
    refine w_skip <| w_reg <| wm rfl rfl <| wm rfl rfl <| wm rfl rfl <| wr_y rfl (y_index1 underlying24 sz3 rfl rfl (rdr 0 rfl) (by have := hOq hq0 q (by omega) (by omega); omega) (by have := hOq hq0 q (by omega) (by omega); omega)) ?_
    refine wr_n (a_storeI 0 rfl sz3 rfl rfl (by have := hOq hq0 q (by omega) (by omega); omega) (by have := hOq hq0 q (by omega) (by omega); omega)) ?_
    rintro _ _ rfl
    refine wr_rows (R1 := (⟨3, 1, (some ⟨g_9, 0, none⟩), ((((s.length : Nat) : Int) + 3).toNat), ((((s.length : Nat) : Int) + 3).toNat), ints .i64 (upd V (rd O q) n), false⟩ :: ⟨3, 1, none, 0, 0, ints .i64 ([]), false⟩ :: Rs)) rfl <| wr_nil <| w_reg <| wA rfl rfl rfl (by omega) <| wm rfl rfl <| wr_nil ?_
    exact ⟨q + 1, n, upd V (rd O q) n, ⟨(by omega), (by omega), (hI.step hOp hq0 (by omega) (.inr ⟨rfl, old_eq nn hOp hq0 (by omega) hc4⟩))⟩, (by omega), (sc rfl (sc rfl (sc rfl (sc rfl (sc rfl (sc rfl (sc rfl (sc rfl Sub.nil)))))))), fun _ h => h⟩
  ·
   have hIe : RkI s O V O.length n := by have e : q = O.length := (by omega); rw [← e]; exact hI
   refine w_exit <| w_seq <| wq <| wm rfl rfl <| wm rfl rfl <| wr_y rfl (y_len underlying24 rfl) <| wr_y rfl (y_eq rfl rfl) <| wr_nil <| w_if rfl (fun hc5 => ?_) (fun hc5 => ?_)
   ·
    refine wq <| wm rfl rfl <| wm rfl rfl <| wg rfl rfl <| wg rfl rfl <| wr_nil <| w_retR (R1 := (⟨3, 1, (some ⟨g_9, 0, none⟩), ((((s.length : Nat) : Int) + 3).toNat), ((((s.length : Nat) : Int) + 3).toNat), ints .i64 V, false⟩ :: Rs)) (fun _ h => h.selR (F := [_, _]) (F' := [_]) [0] (by decide) rfl) ?_
    refine ⟨_, _, rfl, rfl, ?_⟩
    obtain rfl := hn1
    have hVm : (((s.length : Nat) : Int) + 3).toNat = V.length := by have := hIe.len; omega
    exact ⟨O, V, _, _, _, _, _, rfl, hVm, hIe.all hOp (by omega), fun B w0 w h => h4 B w0 w h.tail, fun B w0 w h => by rw [← hVm]; exact rdr 0 rfl w h⟩
   ·
    have hF := hIe.done hOp
    have h4l : 4 ≤ s.length := Nat.not_lt.1 fun g => hc5 (by have := hIe.short hOp h2 (by omega); omega)
    refine w_skip <| wq <| wm rfl rfl <| wr_y rfl (y_len underlying24 rfl) <| wr_a rfl (a_callF en151 rfl (Ct.fresh (fun w hw => places14_ct (by first | assumption | omega | decide) (by omega)))) ?_
    rintro _ _ ⟨_, rfl, A_10, c_11, rfl, rfl⟩
    refine wr_rows (R1 := (⟨3, 1, A_10, (plc s.length 1).length, c_11, ints .i64 (plc s.length 1), false⟩ :: ⟨3, 1, (some ⟨g_9, 0, none⟩), ((((s.length : Nat) : Int) + 3).toNat), ((((s.length : Nat) : Int) + 3).toNat), ints .i64 V, false⟩ :: ⟨3, 1, none, 0, 0, ints .i64 ([]), false⟩ :: Rs)) rfl <| wr_as (v := .slice A_10 ((plc s.length 1).length) c_11) rfl <| wg rfl rfl <| wr_nil <| wq <| wr_sub (R1 := (⟨3, 1, none, 0, 0, ints .i64 ([]), false⟩ :: ⟨3, 1, A_10, (plc s.length 1).length, c_11, ints .i64 (plc s.length 1), false⟩ :: ⟨3, 1, (some ⟨g_9, 0, none⟩), ((((s.length : Nat) : Int) + 3).toNat), ((((s.length : Nat) : Int) + 3).toNat), ints .i64 V, false⟩ :: ⟨3, 1, none, 0, 0, ints .i64 ([]), false⟩ :: Rs)) (Sub.refl _) (fun _ h => h.nil 3 1) <| wg rfl rfl <| wr_nil <| w_seq <| wq <| wm rfl rfl <| wr_y rfl (y_len underlying24 rfl) <| wm rfl rfl ?_
    refine wr_nil <| w_block ?_
    refine w_loop5 (fun (A2 : Option Addr) (n2 : Nat) (c2 : Nat) (a2 : List Int) (i : Int) => [(0, .slice A_s s.length c_s), (5, .slice (some ⟨g_9, 0, none⟩) ((((s.length : Nat) : Int) + 3).toNat) ((((s.length : Nat) : Int) + 3).toNat)), (6, .slice A6 n6 c6), (8, .int .i64 n), (11, .slice A_10 ((plc s.length 1).length) c_11), (12, .slice A2 n2 c2), (79, .slice A_10 ((plc s.length 1).length) c_11), (80, .int .i64 (((plc s.length 1).length : Nat) : Int)), (81, .int .i64 i)]) (fun (A2 : Option Addr) (n2 : Nat) (c2 : Nat) (a2 : List Int) (i : Int) => (⟨3, 1, A2, n2, c2, ints .i64 a2, false⟩ :: ⟨3, 1, A_10, (plc s.length 1).length, c_11, ints .i64 (plc s.length 1), false⟩ :: ⟨3, 1, (some ⟨g_9, 0, none⟩), ((((s.length : Nat) : Int) + 3).toNat), ((((s.length : Nat) : Int) + 3).toNat), ints .i64 V, false⟩ :: ⟨3, 1, none, 0, 0, ints .i64 ([]), false⟩ :: Rs)) (fun (A2 : Option Addr) (n2 : Nat) (c2 : Nat) (a2 : List Int) (i : Int) => (n2 = a2.length) ∧ (0 ≤ i) ∧ (i ≤ (plc s.length 1).length) ∧ (a2 = ((plc s.length 1).take i.toNat).map (rd V))) (fun (A2 : Option Addr) (n2 : Nat) (c2 : Nat) (a2 : List Int) (i : Int) => ((plc s.length 1).length - i).toNat) ?_ ?_
    ·
     exact ⟨none, 0, 0, [], 0, ⟨(rfl), (by omega), (by omega), (rfl)⟩, (sc rfl (sc rfl (sc rfl (sc rfl (sc rfl (sc rfl (sc rfl (sc rfl (sc rfl Sub.nil))))))))), fun _ h => h⟩
    intro A2 n2 c2 a2 i ⟨hn2, hi0, hi1, hac2⟩
    have hal2 := congrArg List.length hac2
    rw [List.length_map, List.length_take] at hal2
    refine wq <| wL rfl rfl rfl <| wr_nil <| w_seq <| w_if rfl (fun hc6 => ?_) (fun hc6 => ?_)
    ·
     have hpi := (mem_plc (n := s.length) (r := 1) (by omega)).1 (rd_mem (L := plc s.length 1) hi0 (by omega))
     refine w_skip <| w_seq <| w_block <| wq <| wr_y rfl (y_index1 underlying24 sz3 rfl rfl (rdr 1 rfl) (by omega) (by omega)) <| wr_y rfl (y_ldI underlying3 rfl rfl (rdr 1 rfl) (by omega) (by omega)) <| wg rfl rfl <| wr_nil <| w_reg <| wm rfl rfl <| wm rfl rfl <| wm rfl rfl <| wr_y rfl (y_index1 underlying24 sz3 rfl rfl (rdr 2 rfl) (by omega) (by omega)) <| wr_y rfl (y_ldI underlying3 rfl rfl (rdr 2 rfl) (by omega) (by omega)) ?_
     refine wr_a rfl (a_litI .i64 [rd V (rd (plc s.length 1) i)] underlying24 zs3 rfl rfl rfl) ?_
     rintro _ _ ⟨g_13, rfl, rfl⟩
     refine wr_a rfl (a_appendI 1 rfl underlying24 zb3 rfl rfl rfl (rdr 0 rfl) (by omega)) ?_
     rintro _ _ ⟨A_14, c_15, rfl, rfl⟩
     refine wr_rows (R1 := (⟨3, 1, (some ⟨g_13, 0, none⟩), 1, 1, ints .i64 ([rd V (rd (plc s.length 1) i)]), false⟩ :: ⟨3, 1, A_14, (n2 + 1), c_15, ints .i64 (a2 ++ ([rd V (rd (plc s.length 1) i)])), false⟩ :: ⟨3, 1, A_10, (plc s.length 1).length, c_11, ints .i64 (plc s.length 1), false⟩ :: ⟨3, 1, (some ⟨g_9, 0, none⟩), ((((s.length : Nat) : Int) + 3).toNat), ((((s.length : Nat) : Int) + 3).toNat), ints .i64 V, false⟩ :: ⟨3, 1, none, 0, 0, ints .i64 ([]), false⟩ :: Rs)) rfl <| wr_as (v := .slice A_14 (n2 + 1) c_15) rfl <| wg rfl rfl <| wr_nil <| w_reg <| wA rfl rfl rfl (by omega) <| wm rfl rfl <| wr_nil ?_
     exact ⟨A_14, n2 + 1, c_15, a2 ++ ([rd V (rd (plc s.length 1) i)]), i + 1, ⟨(by simp only [List.length_append, hn2]; try rfl), (by omega), (by omega), (by rw [take_rd hi0 (by omega), List.map_append, hac2]; rfl)⟩, (by omega), (sc rfl (sc rfl (sc rfl (sc rfl (sc rfl (sc rfl (sc rfl (sc rfl (sc rfl Sub.nil))))))))), fun _ h => h.selR (F := [_, _, _, _, _]) (F' := [_, _, _, _]) [1, 2, 3, 4] (by decide) rfl⟩
    ·
     refine w_exit <| wq <| wm rfl rfl <| wr_a rfl (a_litI .i64 [0] underlying24 zs3 rfl rfl rfl) ?_
     rintro _ _ ⟨g_17, rfl, rfl⟩
     refine wr_a rfl (a_appendI 1 rfl underlying24 zb3 rfl rfl rfl (rdr 0 rfl) (by omega)) ?_
     rintro _ _ ⟨A_18, c_19, rfl, rfl⟩
     refine wr_rows (R1 := (⟨3, 1, (some ⟨g_17, 0, none⟩), 1, 1, ints .i64 ([0]), false⟩ :: ⟨3, 1, A_18, (n2 + 1), c_19, ints .i64 (a2 ++ ([0])), false⟩ :: ⟨3, 1, A_10, (plc s.length 1).length, c_11, ints .i64 (plc s.length 1), false⟩ :: ⟨3, 1, (some ⟨g_9, 0, none⟩), ((((s.length : Nat) : Int) + 3).toNat), ((((s.length : Nat) : Int) + 3).toNat), ints .i64 V, false⟩ :: ⟨3, 1, none, 0, 0, ints .i64 ([]), false⟩ :: Rs)) rfl <| wr_as (v := .slice A_18 (n2 + 1) c_19) rfl <| wg rfl rfl <| wr_nil <| w_seq <| wq <| wm rfl rfl <| wr_y rfl (y_len underlying24 rfl) <| wr_a rfl (a_callF en151 rfl (Ct.fresh (fun w hw => places14_ct (by first | assumption | omega | decide) (by omega)))) ?_
     rintro _ _ ⟨_, rfl, A_20, c_21, rfl, rfl⟩
     refine wr_rows (R1 := (⟨3, 1, A_20, (plc s.length 2).length, c_21, ints .i64 (plc s.length 2), false⟩ :: ⟨3, 1, (some ⟨g_17, 0, none⟩), 1, 1, ints .i64 ([0]), false⟩ :: ⟨3, 1, A_18, (n2 + 1), c_19, ints .i64 (a2 ++ ([0])), false⟩ :: ⟨3, 1, A_10, (plc s.length 1).length, c_11, ints .i64 (plc s.length 1), false⟩ :: ⟨3, 1, (some ⟨g_9, 0, none⟩), ((((s.length : Nat) : Int) + 3).toNat), ((((s.length : Nat) : Int) + 3).toNat), ints .i64 V, false⟩ :: ⟨3, 1, none, 0, 0, ints .i64 ([]), false⟩ :: Rs)) rfl <| wr_as (v := .slice A_20 ((plc s.length 2).length) c_21) rfl <| wr_y rfl (y_len underlying24 rfl) <| wm rfl rfl <| wr_nil <| w_block ?_
     refine w_loop5 (fun (A3 : Option Addr) (n3 : Nat) (c3 : Nat) (a3 : List Int) (u : Int) => [(5, .slice (some ⟨g_9, 0, none⟩) ((((s.length : Nat) : Int) + 3).toNat) ((((s.length : Nat) : Int) + 3).toNat)), (6, .slice A6 n6 c6), (8, .int .i64 n), (11, .slice A_10 ((plc s.length 1).length) c_11), (12, .slice A3 n3 c3), (98, .slice A_20 ((plc s.length 2).length) c_21), (99, .int .i64 (((plc s.length 2).length : Nat) : Int)), (100, .int .i64 u)]) (fun (A3 : Option Addr) (n3 : Nat) (c3 : Nat) (a3 : List Int) (u : Int) => (⟨3, 1, A_20, (plc s.length 2).length, c_21, ints .i64 (plc s.length 2), false⟩ :: ⟨3, 1, (some ⟨g_17, 0, none⟩), 1, 1, ints .i64 ([0]), false⟩ :: ⟨3, 1, A3, n3, c3, ints .i64 a3, false⟩ :: ⟨3, 1, A_10, (plc s.length 1).length, c_11, ints .i64 (plc s.length 1), false⟩ :: ⟨3, 1, (some ⟨g_9, 0, none⟩), ((((s.length : Nat) : Int) + 3).toNat), ((((s.length : Nat) : Int) + 3).toNat), ints .i64 V, false⟩ :: ⟨3, 1, none, 0, 0, ints .i64 ([]), false⟩ :: Rs)) (fun (A3 : Option Addr) (n3 : Nat) (c3 : Nat) (a3 : List Int) (u : Int) => (n3 = a3.length) ∧ (0 ≤ u) ∧ (u ≤ (plc s.length 2).length) ∧ (a3 = ((plc s.length 1).map (rd V) ++ [0]) ++ ((plc s.length 2).take u.toNat).map (rd V))) (fun (A3 : Option Addr) (n3 : Nat) (c3 : Nat) (a3 : List Int) (u : Int) => ((plc s.length 2).length - u).toNat) ?_ ?_
     ·
      exact ⟨A_18, n2 + 1, c_19, a2 ++ ([0]), 0, ⟨(by simp only [List.length_append, hn2]; try rfl), (by omega), (by omega), (by rw [hac2, List.take_of_length_le (by omega)]; simp)⟩, (sc rfl (sc rfl (sc rfl (sc rfl (sc rfl (sc rfl (sc rfl (sc rfl Sub.nil)))))))), fun _ h => h⟩
     intro A3 n3 c3 a3 u ⟨hn3, hk0, hk1, hac3⟩
     have hal3 := congrArg List.length hac3
     rw [List.length_append, List.length_append, List.length_map, List.length_map, List.length_take, List.length_singleton] at hal3
     refine wq <| wL rfl rfl rfl <| wr_nil <| w_seq <| w_if rfl (fun hc7 => ?_) (fun hc7 => ?_)
     ·
      have hpi := (mem_plc (n := s.length) (r := 2) (by omega)).1 (rd_mem (L := plc s.length 2) hk0 (by omega))
      refine w_skip <| w_seq <| w_block <| wq <| wr_y rfl (y_index1 underlying24 sz3 rfl rfl (rdr 0 rfl) (by omega) (by omega)) <| wr_y rfl (y_ldI underlying3 rfl rfl (rdr 0 rfl) (by omega) (by omega)) <| wg rfl rfl <| wr_nil <| w_reg <| wm rfl rfl <| wm rfl rfl <| wm rfl rfl <| wr_y rfl (y_index1 underlying24 sz3 rfl rfl (rdr 4 rfl) (by omega) (by omega)) <| wr_y rfl (y_ldI underlying3 rfl rfl (rdr 4 rfl) (by omega) (by omega)) ?_
      refine wr_a rfl (a_litI .i64 [rd V (rd (plc s.length 2) u)] underlying24 zs3 rfl rfl rfl) ?_
      rintro _ _ ⟨g_23, rfl, rfl⟩
      refine wr_a rfl (a_appendI 3 rfl underlying24 zb3 rfl rfl rfl (rdr 0 rfl) (by omega)) ?_
      rintro _ _ ⟨A_24, c_25, rfl, rfl⟩
      refine wr_rows (R1 := (⟨3, 1, (some ⟨g_23, 0, none⟩), 1, 1, ints .i64 ([rd V (rd (plc s.length 2) u)]), false⟩ :: ⟨3, 1, A_20, (plc s.length 2).length, c_21, ints .i64 (plc s.length 2), false⟩ :: ⟨3, 1, (some ⟨g_17, 0, none⟩), 1, 1, ints .i64 ([0]), false⟩ :: ⟨3, 1, A_24, (n3 + 1), c_25, ints .i64 (a3 ++ ([rd V (rd (plc s.length 2) u)])), false⟩ :: ⟨3, 1, A_10, (plc s.length 1).length, c_11, ints .i64 (plc s.length 1), false⟩ :: ⟨3, 1, (some ⟨g_9, 0, none⟩), ((((s.length : Nat) : Int) + 3).toNat), ((((s.length : Nat) : Int) + 3).toNat), ints .i64 V, false⟩ :: ⟨3, 1, none, 0, 0, ints .i64 ([]), false⟩ :: Rs)) rfl <| wr_as (v := .slice A_24 (n3 + 1) c_25) rfl <| wg rfl rfl <| wr_nil <| w_reg <| wA rfl rfl rfl (by omega) <| wm rfl rfl <| wr_nil ?_
      exact ⟨A_24, n3 + 1, c_25, a3 ++ ([rd V (rd (plc s.length 2) u)]), u + 1, ⟨(by simp only [List.length_append, hn3]; try rfl), (by omega), (by omega), (by rw [take_rd hk0 (by omega), List.map_append, hac3, List.append_assoc]; rfl)⟩, (by omega), (sc rfl (sc rfl (sc rfl (sc rfl (sc rfl (sc rfl (sc rfl (sc rfl Sub.nil)))))))), fun _ h => h.selR (F := [_, _, _, _, _, _, _]) (F' := [_, _, _, _, _, _]) [1, 2, 3, 4, 5, 6] (by decide) rfl⟩
     ·
      have hbl : a3 = blw s V := by rw [hac3, List.take_of_length_le (by omega)]; rfl
      refine w_exit <| wq <| wg rfl rfl <| wr_nil <| w_seq <| wq <| wm rfl rfl <| wm rfl rfl <| wA rfl rfl rfl (by omega) <| wr_a rfl (a_callF en138 rfl (Ct.fresh (fun w hw => IH ((rdr 2 rfl) w hw) (by rw [hbl, blw_len]; omega) ⟨by omega, by rw [hbl]; exact blw_bd hF hI.n0⟩ (by rw [hbl, blw_len]; omega)))) ?_
      rintro _ _ ⟨_, rfl, b1, A_26, c_27, rfl, hp_b1, hs_b1, rfl⟩
      refine wr_y rfl (y_len underlying24 rfl) <| wm rfl rfl <| wr_nil <| w_block ?_
      refine w_loop5 (fun (A4 : Option Addr) (n4 : Nat) (c4 : Nat) (a4 : List Int) (m : Int) => [(4, .slice A4 n4 c4), (5, .slice (some ⟨g_9, 0, none⟩) ((((s.length : Nat) : Int) + 3).toNat) ((((s.length : Nat) : Int) + 3).toNat)), (6, .slice A6 n6 c6), (11, .slice A_10 ((plc s.length 1).length) c_11), (115, .slice A_26 a3.length c_27), (116, .int .i64 ((a3.length : Nat) : Int)), (117, .int .i64 m)]) (fun (A4 : Option Addr) (n4 : Nat) (c4 : Nat) (a4 : List Int) (m : Int) => (⟨3, 1, A_26, a3.length, c_27, ints .i64 b1, false⟩ :: ⟨3, 1, A_20, (plc s.length 2).length, c_21, ints .i64 (plc s.length 2), false⟩ :: ⟨3, 1, (some ⟨g_17, 0, none⟩), 1, 1, ints .i64 ([0]), false⟩ :: ⟨3, 1, A3, n3, c3, ints .i64 a3, false⟩ :: ⟨3, 1, A_10, (plc s.length 1).length, c_11, ints .i64 (plc s.length 1), false⟩ :: ⟨3, 1, (some ⟨g_9, 0, none⟩), ((((s.length : Nat) : Int) + 3).toNat), ((((s.length : Nat) : Int) + 3).toNat), ints .i64 V, false⟩ :: ⟨3, 1, A4, n4, c4, ints .i64 a4, false⟩ :: Rs)) (fun (A4 : Option Addr) (n4 : Nat) (c4 : Nat) (a4 : List Int) (m : Int) => (n4 = a4.length) ∧ (0 ≤ m) ∧ (m ≤ b1.length) ∧ (a4 = ofB s (b1.take m.toNat))) (fun (A4 : Option Addr) (n4 : Nat) (c4 : Nat) (a4 : List Int) (m : Int) => (b1.length - m).toNat) ?_ ?_
      ·
       exact ⟨none, 0, 0, [], 0, ⟨(rfl), (by omega), (by omega), (rfl)⟩, (sc rfl (sc rfl (sc rfl (sc rfl (sc rfl (sc rfl (sc rfl Sub.nil))))))), fun _ h => h⟩
      intro A4 n4 c4 a4 m ⟨hn4, hm0, hm1, hac4⟩
      have hbl1 : b1.length = a3.length := by rw [hp_b1.length_eq, iota_len]
      have hal4 := congrArg List.length hac4
      have hal5 := ofB_len (s := s) (b1.take m.toNat)
      rw [List.length_take] at hal5
      refine wq <| wL rfl rfl rfl <| wr_nil <| w_seq <| w_if rfl (fun hc8 => ?_) (fun hc8 => ?_)
      ·
       have hbm := mem_iota.1 (hp_b1.subset (rd_mem (L := b1) hm0 (by omega)))
       rw [hbl, blw_len] at hbm
       refine w_skip <| w_seq <| w_block <| wq <| wr_y rfl (y_index1 underlying24 sz3 rfl rfl (rdr 0 rfl) (by omega) (by omega)) <| wr_y rfl (y_ldI underlying3 rfl rfl (rdr 0 rfl) (by omega) (by omega)) <| wg rfl rfl <| wr_nil <| w_block <| wq <| wm rfl rfl <| wm rfl rfl <| wr_y rfl (y_len underlying24 rfl) ?_
       refine wL rfl rfl rfl <| wg rfl rfl <| wr_nil <| w_if rfl (fun hc9 => ?_) (fun hc9 => ?_)
       ·
        refine w_reg <| wm rfl rfl <| wm rfl rfl <| wm rfl rfl <| wr_y rfl (y_index1 underlying24 sz3 rfl rfl (rdr 4 rfl) (by omega) (by omega)) <| wr_y rfl (y_ldI underlying3 rfl rfl (rdr 4 rfl) (by omega) (by omega)) <| wr_a rfl (a_litI .i64 [rd (plc s.length 1) (rd b1 m)] underlying24 zs3 rfl rfl rfl) ?_
        rintro _ _ ⟨g_30, rfl, rfl⟩
        refine wr_a rfl (a_appendI 7 rfl underlying24 zb3 rfl rfl rfl (rdr 0 rfl) (by omega)) ?_
        rintro _ _ ⟨A_31, c_32, rfl, rfl⟩
        refine wr_rows (R1 := (⟨3, 1, (some ⟨g_30, 0, none⟩), 1, 1, ints .i64 ([rd (plc s.length 1) (rd b1 m)]), false⟩ :: ⟨3, 1, A_26, a3.length, c_27, ints .i64 b1, false⟩ :: ⟨3, 1, A_20, (plc s.length 2).length, c_21, ints .i64 (plc s.length 2), false⟩ :: ⟨3, 1, (some ⟨g_17, 0, none⟩), 1, 1, ints .i64 ([0]), false⟩ :: ⟨3, 1, A3, n3, c3, ints .i64 a3, false⟩ :: ⟨3, 1, A_10, (plc s.length 1).length, c_11, ints .i64 (plc s.length 1), false⟩ :: ⟨3, 1, (some ⟨g_9, 0, none⟩), ((((s.length : Nat) : Int) + 3).toNat), ((((s.length : Nat) : Int) + 3).toNat), ints .i64 V, false⟩ :: ⟨3, 1, A_31, (n4 + 1), c_32, ints .i64 (a4 ++ ([rd (plc s.length 1) (rd b1 m)])), false⟩ :: Rs)) rfl <| wr_as (v := .slice A_31 (n4 + 1) c_32) rfl <| wg rfl rfl <| wr_nil <| w_reg <| wA rfl rfl rfl (by omega) <| wm rfl rfl <| wr_nil ?_
        exact ⟨A_31, n4 + 1, c_32, a4 ++ ([rd (plc s.length 1) (rd b1 m)]), m + 1, ⟨(by simp only [List.length_append, hn4]; try rfl), (by omega), (by omega), (by rw [take_rd hm0 (by omega), ofB_snoc (by omega), hac4, bk_one hbm.1 (by omega)])⟩, (by omega), (sc rfl (sc rfl (sc rfl (sc rfl (sc rfl (sc rfl (sc rfl Sub.nil))))))), fun _ h => h.selR (F := [_, _, _, _, _, _, _, _]) (F' := [_, _, _, _, _, _, _]) [1, 2, 3, 4, 5, 6, 7] (by decide) rfl⟩
       ·
        refine wq <| wm rfl rfl <| wm rfl rfl <| wr_y rfl (y_len underlying24 rfl) <| wr_y rfl (y_gt rfl rfl) <| wg rfl rfl <| wr_nil <| w_if rfl (fun hc10 => ?_) (fun hc10 => ?_)
        ·
         refine w_reg <| wm rfl rfl <| wm rfl rfl <| wm rfl rfl <| wS rfl rfl rfl (by omega) <| wr_y rfl (y_index1 underlying24 sz3 rfl rfl (fun _ h => h6 _ _ _ (h.right (R' := [_, _, _, _, _, _, _]))) (by omega) (by omega)) <| wr_y rfl (y_ldI underlying3 rfl rfl (fun _ h => h6 _ _ _ (h.right (R' := [_, _, _, _, _, _, _]))) (by omega) (by omega)) <| wr_a rfl (a_litI .i64 [rd (smp s.length) ((rd b1 m) - 1)] underlying24 zs3 rfl rfl rfl) ?_
         rintro _ _ ⟨g_34, rfl, rfl⟩
         refine wr_a rfl (a_appendI 7 rfl underlying24 zb3 rfl rfl rfl (rdr 0 rfl) (by omega)) ?_
         rintro _ _ ⟨A_35, c_36, rfl, rfl⟩
         refine wr_rows (R1 := (⟨3, 1, (some ⟨g_34, 0, none⟩), 1, 1, ints .i64 ([rd (smp s.length) ((rd b1 m) - 1)]), false⟩ :: ⟨3, 1, A_26, a3.length, c_27, ints .i64 b1, false⟩ :: ⟨3, 1, A_20, (plc s.length 2).length, c_21, ints .i64 (plc s.length 2), false⟩ :: ⟨3, 1, (some ⟨g_17, 0, none⟩), 1, 1, ints .i64 ([0]), false⟩ :: ⟨3, 1, A3, n3, c3, ints .i64 a3, false⟩ :: ⟨3, 1, A_10, (plc s.length 1).length, c_11, ints .i64 (plc s.length 1), false⟩ :: ⟨3, 1, (some ⟨g_9, 0, none⟩), ((((s.length : Nat) : Int) + 3).toNat), ((((s.length : Nat) : Int) + 3).toNat), ints .i64 V, false⟩ :: ⟨3, 1, A_35, (n4 + 1), c_36, ints .i64 (a4 ++ ([rd (smp s.length) ((rd b1 m) - 1)])), false⟩ :: Rs)) rfl <| wr_as (v := .slice A_35 (n4 + 1) c_36) rfl <| wg rfl rfl <| wr_nil <| w_reg <| wA rfl rfl rfl (by omega) <| wm rfl rfl <| wr_nil ?_
         exact ⟨A_35, n4 + 1, c_36, a4 ++ ([rd (smp s.length) ((rd b1 m) - 1)]), m + 1, ⟨(by simp only [List.length_append, hn4]; try rfl), (by omega), (by omega), (by rw [take_rd hm0 (by omega), ofB_snoc (by omega), hac4, bk_two (by omega) (by omega)])⟩, (by omega), (sc rfl (sc rfl (sc rfl (sc rfl (sc rfl (sc rfl (sc rfl Sub.nil))))))), fun _ h => h.selR (F := [_, _, _, _, _, _, _, _]) (F' := [_, _, _, _, _, _, _]) [1, 2, 3, 4, 5, 6, 7] (by decide) rfl⟩
        ·
         refine w_skip <| w_reg <| wA rfl rfl rfl (by omega) <| wm rfl rfl <| wr_nil ?_
         exact ⟨A4, n4, c4, a4, m + 1, ⟨(by simp only [List.length_append, hn4]; try rfl), (by omega), (by omega), (by rw [take_rd hm0 (by omega), ofB_snoc_no (by omega), hac4])⟩, (by omega), (sc rfl (sc rfl (sc rfl (sc rfl (sc rfl (sc rfl (sc rfl Sub.nil))))))), fun _ h => h⟩
      ·
       rw [hbl] at hp_b1 hs_b1
       have hof : a4 = ofB s b1 := by rw [hac4, List.take_of_length_le (by omega)]
       have hop4 : a4.Perm (smp s.length) := by rw [hof]; exact ofB_perm hp_b1
       have hos4 : a4.Pairwise (ordE s) := by rw [hof]; exact ofB_sorted hF hI.n0 hp_b1 hs_b1
       refine w_exit <| w_seq <| wq <| wm rfl rfl <| wr_y rfl (y_len underlying24 rfl) <| wm rfl rfl <| wr_nil <| w_block ?_
       refine w_loop2 (fun (z : Int) (V5 : List Int) => [(4, .slice A4 n4 c4), (5, .slice (some ⟨g_9, 0, none⟩) ((((s.length : Nat) : Int) + 3).toNat) ((((s.length : Nat) : Int) + 3).toNat)), (147, .slice A4 n4 c4), (148, .int .i64 ((n4 : Nat) : Int)), (149, .int .i64 z)]) (fun (z : Int) (V5 : List Int) => (⟨3, 1, A_26, a3.length, c_27, ints .i64 b1, false⟩ :: ⟨3, 1, A_20, (plc s.length 2).length, c_21, ints .i64 (plc s.length 2), false⟩ :: ⟨3, 1, (some ⟨g_17, 0, none⟩), 1, 1, ints .i64 ([0]), false⟩ :: ⟨3, 1, A3, n3, c3, ints .i64 a3, false⟩ :: ⟨3, 1, A_10, (plc s.length 1).length, c_11, ints .i64 (plc s.length 1), false⟩ :: ⟨3, 1, (some ⟨g_9, 0, none⟩), ((((s.length : Nat) : Int) + 3).toNat), ((((s.length : Nat) : Int) + 3).toNat), ints .i64 V5, false⟩ :: ⟨3, 1, A4, n4, c4, ints .i64 a4, false⟩ :: Rs)) (fun (z : Int) (V5 : List Int) => (0 ≤ z) ∧ (z ≤ a4.length) ∧ (RkN s a4 V5 z)) (fun (z : Int) (V5 : List Int) => (a4.length - z).toNat) ?_ ?_
       ·
        exact ⟨0, V, ⟨(by omega), (by omega), (hF.zero _)⟩, (sc rfl (sc rfl (sc rfl (sc rfl (sc rfl Sub.nil))))), fun _ h => h⟩
       intro z V5 ⟨hz0, hz1, hN5⟩
       have hV5 := hN5.len
       refine wq <| wL rfl rfl rfl <| wr_nil <| w_seq <| w_if rfl (fun hc11 => ?_) (fun hc11 => ?_)
       ·
        have hzi := smp_in (hop4.subset (rd_mem (L := a4) hz0 (by omega)))
        refine w_skip <| w_seq <| w_block <| wq <| wm rfl rfl <| wr_y rfl (y_index1 underlying24 sz3 rfl rfl (rdr 6 rfl) (by omega) (by omega)) <| wr_y rfl (y_ldI underlying3 rfl rfl (rdr 6 rfl) (by omega) (by omega)) <| wg rfl rfl <| wg rfl rfl <| wr_nil <| w_reg <| wm rfl rfl <| wm rfl rfl <| wm rfl rfl ?_
        refine wA rfl rfl rfl (by omega) <| wr_y rfl (y_index1 underlying24 sz3 rfl rfl (rdr 5 rfl) (by omega) (by omega)) <| wr_n (a_storeI 5 rfl sz3 rfl rfl (by omega) (by omega)) ?_
        rintro _ _ rfl
        refine wr_rows (R1 := (⟨3, 1, A_26, a3.length, c_27, ints .i64 b1, false⟩ :: ⟨3, 1, A_20, (plc s.length 2).length, c_21, ints .i64 (plc s.length 2), false⟩ :: ⟨3, 1, (some ⟨g_17, 0, none⟩), 1, 1, ints .i64 ([0]), false⟩ :: ⟨3, 1, A3, n3, c3, ints .i64 a3, false⟩ :: ⟨3, 1, A_10, (plc s.length 1).length, c_11, ints .i64 (plc s.length 1), false⟩ :: ⟨3, 1, (some ⟨g_9, 0, none⟩), ((((s.length : Nat) : Int) + 3).toNat), ((((s.length : Nat) : Int) + 3).toNat), ints .i64 (upd V5 (rd a4 z) (z + 1)), false⟩ :: ⟨3, 1, A4, n4, c4, ints .i64 a4, false⟩ :: Rs)) rfl <| wr_nil <| w_reg <| wA rfl rfl rfl (by omega) <| wm rfl rfl <| wr_nil ?_
        exact ⟨z + 1, upd V5 (rd a4 z) (z + 1), ⟨(by omega), (by omega), (hN5.step hop4 hz0 (by omega))⟩, (by omega), (sc rfl (sc rfl (sc rfl (sc rfl (sc rfl Sub.nil))))), fun _ h => h⟩
       ·
        refine w_exit <| wq <| wm rfl rfl <| wm rfl rfl <| wg rfl rfl <| wg rfl rfl <| wr_nil <| w_retR (R1 := [⟨3, 1, A4, n4, c4, ints .i64 a4, false⟩, ⟨3, 1, (some ⟨g_9, 0, none⟩), ((((s.length : Nat) : Int) + 3).toNat), ((((s.length : Nat) : Int) + 3).toNat), ints .i64 V5, false⟩]) (fun _ h => (h.selR (F := [_, _, _, _, _, _, _]) (F' := [_, _]) [6, 5] (by decide) rfl).left (X := [_, _])) ?_
        refine ⟨_, _, rfl, rfl, ?_⟩
        obtain rfl := hn4
        have hVm : (((s.length : Nat) : Int) + 3).toNat = V5.length := by have := hN5.len; omega
        have hNe : RkN s a4 V5 a4.length := by have e : z = a4.length := (by omega); rw [← e]; exact hN5
        exact ⟨a4, V5, _, _, _, _, _, rfl, hVm, hNe.done hop4 hos4, fun B w0 w h => rdr 0 rfl w h, fun B w0 w h => by rw [← hVm]; exact rdr 1 rfl w h⟩

theorem rd_drop0 {l : List Int} {a : Int} (h0 : 0 ≤ a) : rd (l.drop a.toNat) 0 = rd l a := by
 unfold rd
 rw [List.getD_eq_getElem?_getD, List.getD_eq_getElem?_getD, List.getElem?_drop]
 rfl
set_option maxRecDepth 100000 in
set_option maxHeartbeats 4000000 in
theorem sortedStep14_ct {w : World} {A_s : Option Addr} {n_s c_s : Nat} {s : List Int} {k : Int} (h_s : Rd w A_s n_s c_s 1 (ints .i64 s)) (IH : ∀ {w : World} {A_t : Option Addr} {n_t c_t : Nat} {t : List Int} {j : Int}, Rd w A_t n_t c_t 1 (ints .i64 t) → t.length < s.length → ((0 ≤ j ∧ j ≤ 1000000) ∧ ∀ x ∈ t, 0 ≤ x ∧ x < j) → t.length ≤ 100000 → Ct Tryz.prog 138 #[.slice A_t n_t c_t, .int .i64 j] w.heap.size w [] (fun v R' => ∃ (b : List Int) (A : Option Addr) (c : Nat), v = .slice A t.length c ∧ b.Perm (iota t.length) ∧ b.Pairwise (ordE t) ∧ R' = [⟨3, 1, A, t.length, c, ints .i64 b, false⟩])) (hok : (0 ≤ k ∧ k ≤ 1000000) ∧ ∀ x ∈ s, 0 ≤ x ∧ x < k) (hN : s.length ≤ 100000) :
  Ct Tryz.prog 138 #[.slice A_s n_s c_s, .int .i64 k] w.heap.size w [] (fun v R' => ∃ (b : List Int) (A : Option Addr) (c : Nat), v = .slice A s.length c ∧ b.Perm (iota s.length) ∧ b.Pairwise (ordE s) ∧ R' = [⟨3, 1, A, s.length, c, ints .i64 b, false⟩]) := by
 obtain rfl := h_s.lenI
 refine fn1 Tryz.func138 rfl rfl rfl ?_
 have m_s := h_s.max
 have hs1 : ∀ x ∈ s, 0 ≤ x ∧ x ≤ 1000000 := fun x hx => by have := hok.2 x hx; omega
 have lp0 := plc_len s.length 0
 have lsm := smp_len s.length
 refine wq <| wg rfl rfl <| wr_nil <| w_seq <| wq <| wm rfl rfl <| wr_y rfl (y_len underlying24 rfl) <| wL rfl rfl rfl <| wr_nil <| w_if rfl (fun hc1 => ?_) (fun hc1 => ?_)
 ·
  refine wq <| wm rfl rfl <| wr_y rfl (y_len underlying24 rfl) <| wr_a rfl (a_callF en151 rfl (Ct.fresh (fun w hw => places14_ct (by first | assumption | omega | decide) (by omega)))) ?_
  rintro _ _ ⟨_, rfl, A_1, c_2, rfl, rfl⟩
  refine wr_rows (R1 := (⟨3, 1, A_1, (plc s.length 0).length, c_2, ints .i64 (plc s.length 0), false⟩ :: [])) rfl <| wr_as (v := .slice A_1 ((plc s.length 0).length) c_2) rfl <| wm rfl rfl <| wr_y rfl (y_len underlying24 rfl) <| wr_y rfl (y_sliceTo underlying24 sz3 rfl rfl (rdr 0 rfl) (by omega) (by omega)) <| wg rfl rfl <| wr_nil <| w_retR (R1 := [⟨3, 1, A_1, (plc s.length 0).length, c_2, ints .i64 (plc s.length 0), false⟩]) (fun _ h => (h.selR (F := [_]) (F' := [_]) [0] (by decide) rfl).left (X := [_])) ?_
  refine ⟨_, rfl, ?_⟩
  rw [plc_short (show s.length < 2 by omega), iota_len]
  exact ⟨_, _, _, rfl, .refl _, pw_one (by omega), rfl⟩
 ·
  refine w_skip <| wq <| wm rfl rfl <| wm rfl rfl <| wr_a rfl (a_callF en152 rfl (Ct.fresh (fun w hw => rankedStep_ct ((h_s.c _) w hw) IH hok hN (by omega)))) ?_
  rintro _ _ ⟨Rn, rfl, o1, V1, A_3, A_5, c_4, c_6, _, rfl, rfl, hRk, hr1, hr2⟩
  refine wr_sub (R1 := (Rn)) (Sub.refl _) (fun _ h => Hp.toTail0 (X := []) (Y := []) h) <| wm rfl rfl <| wX rfl rfl rfl <| wX rfl rfl rfl <| wg rfl rfl <| wg rfl rfl <| wr_nil <| wq <| wm rfl rfl <| wr_y rfl (y_len underlying24 rfl) <| wr_a rfl (a_callF en151 rfl (Ct.fresh (fun w hw => places14_ct (by first | assumption | omega | decide) (by omega)))) ?_
  rintro _ _ ⟨_, rfl, A_7, c_8, rfl, rfl⟩
  refine wr_rows (R1 := (⟨3, 1, A_7, (plc s.length 0).length, c_8, ints .i64 (plc s.length 0), false⟩ :: Rn)) rfl <| wr_as (v := .slice A_7 ((plc s.length 0).length) c_8) rfl <| wg rfl rfl <| wr_nil <| wq <| wm rfl rfl <| wr_y rfl (y_len underlying24 rfl) <| wr_a rfl (a_makeN underlying24 zb3 rfl rfl (by omega) (by omega) (by omega)) ?_
  rintro _ _ ⟨g_9, rfl, rfl⟩
  refine wr_rows (R1 := (⟨3, 1, (some ⟨g_9, 0, none⟩), s.length, s.length, ints .i64 (List.replicate s.length (0 : Int)), false⟩ :: ⟨3, 1, A_7, (plc s.length 0).length, c_8, ints .i64 (plc s.length 0), false⟩ :: Rn)) rfl <| wr_as (v := .slice (some ⟨g_9, 0, none⟩) s.length s.length) rfl <| wg rfl rfl <| wr_nil <| w_seq <| wq <| wm rfl rfl <| wr_y rfl (y_len underlying24 rfl) <| wm rfl rfl <| wr_nil <| w_block ?_
  refine w_loop2 (fun (i : Int) (V : List Int) => [(0, .slice A_s s.length c_s), (1, .int .i64 k), (5, .slice A_3 o1.length c_4), (6, .slice A_5 V1.length c_6), (7, .slice A_7 ((plc s.length 0).length) c_8), (8, .slice (some ⟨g_9, 0, none⟩) s.length s.length), (35, .int .i64 ((s.length : Nat) : Int)), (36, .int .i64 i)]) (fun (i : Int) (V : List Int) => (⟨3, 1, (some ⟨g_9, 0, none⟩), s.length, s.length, ints .i64 V, false⟩ :: ⟨3, 1, A_7, (plc s.length 0).length, c_8, ints .i64 (plc s.length 0), false⟩ :: Rn)) (fun (i : Int) (V : List Int) => (0 ≤ i) ∧ (i ≤ s.length) ∧ (V.length = s.length) ∧ (∀ j : Int, 0 ≤ j → j < i → rd V j = rd V1 (j + 1))) (fun (i : Int) (V : List Int) => (s.length - i).toNat) ?_ ?_
  ·
   exact ⟨0, List.replicate s.length (0 : Int), ⟨(by omega), (by omega), (by rw [List.length_replicate]), (fun j h1 h2 => by omega)⟩, (sc rfl (sc rfl (sc rfl (sc rfl (sc rfl (sc rfl (sc rfl (sc rfl Sub.nil)))))))), fun _ h => h⟩
  intro i V ⟨hi0, hi1, hVl, hV⟩
  refine wq <| wL rfl rfl rfl <| wr_nil <| w_seq <| w_if rfl (fun hc2 => ?_) (fun hc2 => ?_)
  ·
   have hV1 := hRk.len
   refine w_skip <| w_seq <| w_block <| wq <| wm rfl rfl <| wg rfl rfl <| wr_nil <| w_reg <| wm rfl rfl <| wm rfl rfl <| wm rfl rfl <| wm rfl rfl <| wA rfl rfl rfl (by omega) <| wr_y rfl (y_index1 underlying24 sz3 rfl rfl (fun _ h => hr2 _ _ _ (h.right (R' := [_, _]))) (by omega) (by omega)) ?_
   refine wr_y rfl (y_ldI underlying3 rfl rfl (fun _ h => hr2 _ _ _ (h.right (R' := [_, _]))) (by omega) (by omega)) <| wr_y rfl (y_index1 underlying24 sz3 rfl rfl (rdr 0 rfl) (by omega) (by omega)) <| wr_n (a_storeI 0 rfl sz3 rfl rfl (by omega) (by omega)) ?_
   rintro _ _ rfl
   refine wr_rows (R1 := (⟨3, 1, (some ⟨g_9, 0, none⟩), s.length, s.length, ints .i64 (upd V i (rd V1 (i + 1))), false⟩ :: ⟨3, 1, A_7, (plc s.length 0).length, c_8, ints .i64 (plc s.length 0), false⟩ :: Rn)) rfl <| wr_nil <| w_reg <| wA rfl rfl rfl (by omega) <| wm rfl rfl <| wr_nil ?_
   exact ⟨i + 1, upd V i (rd V1 (i + 1)), ⟨(by omega), (by omega), (by rw [upd_length]; exact hVl), (fill_step (f := fun j => rd V1 (j + 1)) hi0 (by omega) hV rfl)⟩, (by omega), (sc rfl (sc rfl (sc rfl (sc rfl (sc rfl (sc rfl (sc rfl (sc rfl Sub.nil)))))))), fun _ h => h⟩
  ·
   have hB : V = bhd s V1 := bhd_of hVl (fun j h1 h2 => hV j h1 (by omega))
   have h1p := oth_a hRk
   have h2p := oth_perm hRk hok.2 hok.1.1
   have hos2 := oth_sorted hRk hok.2 hok.1.1
   have hol := hRk.perm.length_eq
   refine w_exit <| wq <| wm rfl rfl <| wm rfl rfl <| wm rfl rfl <| wr_y rfl (y_len underlying24 rfl) <| wA rfl rfl rfl (by omega) <| wr_a rfl (a_callF en66 rfl (Ct.fresh (fun w hw => pass_ct ((rdr 1 rfl) w hw) ((rdr 0 rfl) w hw) (by omega) (by rw [hB]; exact bhd_bd hRk) (fun x hx => by rw [mem_plc (by omega)] at hx; omega) (by omega)))) ?_
   rintro _ _ ⟨_, rfl, A_10, c_11, rfl, rfl⟩
   generalize hg_ot1 : passK (plc s.length 0) V ((((s.length : Nat) : Int) + 1)).toNat = ot1
   refine wm rfl rfl <| wX rfl rfl rfl <| wX rfl rfl rfl <| wg rfl rfl <| wr_nil <| wq <| wm rfl rfl <| wm rfl rfl <| wr_a rfl (a_callF en153 rfl (Ct.fresh (fun w hw => keys14_ct ((h_s.c _) w hw) (by omega) hs1 (by omega)))) ?_
   rintro _ _ ⟨_, rfl, A_12, c_13, rfl, rfl⟩
   refine wm rfl rfl <| wA rfl rfl rfl (by omega) <| wr_a rfl (a_callF en66 rfl (Ct.fresh (fun w hw => pass_ct ((rdr 1 rfl) w hw) ((rdr 0 rfl) w hw) (by omega) (keysL_bd hok.2 hok.1.1 (by omega)) (fun x hx => by rw [← hg_ot1, hB] at hx; have := h1p.subset hx; rw [mem_plc (by omega)] at this; rw [keysL_len]; omega) (by rw [← hg_ot1, hB, h1p.length_eq]; omega)))) ?_
   rintro _ _ ⟨_, rfl, A_14, c_15, rfl, rfl⟩
   generalize hg_ot2 : passK ot1 (keysL s 0) ((k + 1)).toNat = ot2
   have hot2 : oth s V1 k = ot2 := by unfold oth; rw [← hB, hg_ot1, hg_ot2]
   rw [hot2] at h2p hos2
   have hl2 := h2p.length_eq
   have hl1 : ot1.length = ot2.length := by rw [hl2, ← hg_ot1, hB, h1p.length_eq]
   refine wm rfl rfl <| wX rfl rfl rfl <| wX rfl rfl rfl <| wg rfl rfl <| wr_nil <| wq <| wr_sub (R1 := (⟨3, 1, none, 0, 0, ints .i64 ([]), false⟩ :: ⟨3, 1, A_14, ((ot1).length), c_15, ints .i64 ot2, false⟩ :: ⟨3, 1, A_12, ((s).length), c_13, ints .i64 (keysL s 0), false⟩ :: ⟨3, 1, A_10, (((plc s.length 0)).length), c_11, ints .i64 ot1, false⟩ :: ⟨3, 1, (some ⟨g_9, 0, none⟩), s.length, s.length, ints .i64 V, false⟩ :: ⟨3, 1, A_7, (plc s.length 0).length, c_8, ints .i64 (plc s.length 0), false⟩ :: Rn)) (Sub.refl _) (fun _ h => h.nil 3 1) <| wg rfl rfl <| wr_nil <| w_seq <| wq <| wm rfl rfl <| wr_y rfl (y_len underlying24 rfl) ?_
   refine wm rfl rfl <| wr_nil <| w_block ?_
   refine w_loop9 (fun (q : Int) (x : Int) (AL : Option Addr) (nL : Nat) (cL : Nat) (acc : List Int) (AO : Option Addr) (nO : Nat) (cO : Nat) => [(0, .slice A_s s.length c_s), (5, .slice AO nO cO), (6, .slice A_5 V1.length c_6), (10, .slice AL nL cL), (66, .slice A_14 ((ot1).length) c_15), (67, .int .i64 (((ot1).length : Nat) : Int)), (68, .int .i64 q)]) (fun (q : Int) (x : Int) (AL : Option Addr) (nL : Nat) (cL : Nat) (acc : List Int) (AO : Option Addr) (nO : Nat) (cO : Nat) => (⟨3, 1, AL, nL, cL, ints .i64 acc, false⟩ :: ⟨3, 1, A_14, ((ot1).length), c_15, ints .i64 ot2, false⟩ :: ⟨3, 1, A_12, ((s).length), c_13, ints .i64 (keysL s 0), false⟩ :: ⟨3, 1, A_10, (((plc s.length 0)).length), c_11, ints .i64 ot1, false⟩ :: ⟨3, 1, (some ⟨g_9, 0, none⟩), s.length, s.length, ints .i64 V, false⟩ :: ⟨3, 1, A_7, (plc s.length 0).length, c_8, ints .i64 (plc s.length 0), false⟩ :: Rn)) (fun (q : Int) (x : Int) (AL : Option Addr) (nL : Nat) (cL : Nat) (acc : List Int) (AO : Option Addr) (nO : Nat) (cO : Nat) => (0 ≤ q) ∧ (q ≤ ot2.length) ∧ (0 ≤ x) ∧ (x ≤ o1.length) ∧ (MgI s o1 ot2 acc x q) ∧ (nL = acc.length) ∧ (nO = (o1.drop x.toNat).length) ∧ (∀ (B : Nat) (w0 w : World), Hp B w0 w Rn → Rd w AO nO cO 1 (ints .i64 (o1.drop x.toNat)))) (fun (q : Int) (x : Int) (AL : Option Addr) (nL : Nat) (cL : Nat) (acc : List Int) (AO : Option Addr) (nO : Nat) (cO : Nat) => (ot2.length - q).toNat) ?_ ?_
   ·
    exact ⟨0, 0, none, 0, 0, [], A_3, o1.length, c_4, ⟨(by omega), (by omega), (by omega), (by omega), (mgI_zero), (rfl), (rfl), (hr1)⟩, (sc rfl (sc rfl (sc rfl (sc rfl (sc rfl (sc rfl (sc rfl Sub.nil))))))), fun _ h => h⟩
   intro q x AL nL cL acc AO nO cO ⟨hq0, hq1, hx0, hx1, hM, hnL, hnO, h5⟩
   have hal := hM.len hx0 hx1 hq0 hq1
   refine wq <| wL rfl rfl rfl <| wr_nil <| w_seq <| w_if rfl (fun hc3 => ?_) (fun hc3 => ?_)
   ·
    have hqq : q < ot2.length := by omega
    have hqm := (mem_plc (by omega)).1 (h2p.subset (rd_mem (L := ot2) hq0 hqq))
    have hqj : (0 ≤ rd ot2 q ∧ rd ot2 q < s.length) ∧ rd ot2 q % 3 = 0 := by omega
    refine w_skip <| w_seq <| w_block <| wq <| wr_y rfl (y_index1 underlying24 sz3 rfl rfl (rdr 1 rfl) (by omega) (by omega)) <| wr_y rfl (y_ldI underlying3 rfl rfl (rdr 1 rfl) (by omega) (by omega)) <| wg rfl rfl <| wr_nil <| w_seq <| w_block ?_
    refine w_loop8 (fun (y : Int) (AM : Option Addr) (nM : Nat) (cM : Nat) (ac2 : List Int) (AP : Option Addr) (nP : Nat) (cP : Nat) => [(0, .slice A_s s.length c_s), (5, .slice AP nP cP), (6, .slice A_5 V1.length c_6), (10, .slice AM nM cM), (12, .int .i64 (rd ot2 q)), (66, .slice A_14 ((ot1).length) c_15), (67, .int .i64 (((ot1).length : Nat) : Int)), (68, .int .i64 q)]) (fun (y : Int) (AM : Option Addr) (nM : Nat) (cM : Nat) (ac2 : List Int) (AP : Option Addr) (nP : Nat) (cP : Nat) => (⟨3, 1, AM, nM, cM, ints .i64 ac2, false⟩ :: ⟨3, 1, A_14, ((ot1).length), c_15, ints .i64 ot2, false⟩ :: ⟨3, 1, A_12, ((s).length), c_13, ints .i64 (keysL s 0), false⟩ :: ⟨3, 1, A_10, (((plc s.length 0)).length), c_11, ints .i64 ot1, false⟩ :: ⟨3, 1, (some ⟨g_9, 0, none⟩), s.length, s.length, ints .i64 V, false⟩ :: ⟨3, 1, A_7, (plc s.length 0).length, c_8, ints .i64 (plc s.length 0), false⟩ :: Rn)) (fun (y : Int) (AM : Option Addr) (nM : Nat) (cM : Nat) (ac2 : List Int) (AP : Option Addr) (nP : Nat) (cP : Nat) => (0 ≤ y) ∧ (y ≤ o1.length) ∧ (MgI s o1 ot2 ac2 y q) ∧ (nM = ac2.length) ∧ (nP = (o1.drop y.toNat).length) ∧ (∀ (B : Nat) (w0 w : World), Hp B w0 w Rn → Rd w AP nP cP 1 (ints .i64 (o1.drop y.toNat)))) (fun (y : Int) (AM : Option Addr) (nM : Nat) (cM : Nat) (ac2 : List Int) (AP : Option Addr) (nP : Nat) (cP : Nat) => (o1.length - y).toNat) ?_ ?_
    ·
     exact ⟨x, AL, nL, cL, acc, AO, nO, cO, ⟨(by omega), (by omega), (hM), (hnL), (hnO), (h5)⟩, (sc rfl (sc rfl (sc rfl (sc rfl (sc rfl (sc rfl (sc rfl (sc rfl Sub.nil)))))))), fun _ h => h⟩
    intro y AM nM cM ac2 AP nP cP ⟨hy0, hy1, hM2, hnM, hnP, h6⟩
    have hal2 := hM2.len hy0 hy1 hq0 (by omega)
    have hnP2 := hnP
    rw [List.length_drop] at hnP2
    have e0 := rd_drop0 (l := o1) hy0
    have hoi : y < o1.length → (0 ≤ rd (o1.drop y.toNat) 0 ∧ rd (o1.drop y.toNat) 0 < s.length) ∧ rd (o1.drop y.toNat) 0 % 3 ≠ 0 := fun h => by
     have := mem_smp.1 (hRk.perm.subset (rd_mem hy0 h))
     rw [e0]
     omega
    refine w_seq <| wq <| wm rfl rfl <| wr_y rfl (y_len underlying24 rfl) <| wr_y rfl (y_gt rfl rfl) <| wm rfl rfl <| wr_mid 8 [(0, .slice A_s s.length c_s), (5, .slice AP nP cP), (6, .slice A_5 V1.length c_6), (10, .slice AM nM cM), (12, .int .i64 (rd ot2 q)), (66, .slice A_14 ((ot1).length) c_15), (67, .int .i64 (((ot1).length : Nat) : Int)), (68, .int .i64 q), (83, .bool (decide ((0 < ((nP : Nat) : Int)) ∧ (cmpL ((s).drop ((rd (o1.drop y.toNat) 0)).toNat) ((s).drop ((rd ot2 q)).toNat) < 0))))] (⟨3, 1, AM, nM, cM, ints .i64 ac2, false⟩ :: ⟨3, 1, A_14, ((ot1).length), c_15, ints .i64 ot2, false⟩ :: ⟨3, 1, A_12, ((s).length), c_13, ints .i64 (keysL s 0), false⟩ :: ⟨3, 1, A_10, (((plc s.length 0)).length), c_11, ints .i64 ot1, false⟩ :: ⟨3, 1, (some ⟨g_9, 0, none⟩), s.length, s.length, ints .i64 V, false⟩ :: ⟨3, 1, A_7, (plc s.length 0).length, c_8, ints .i64 (plc s.length 0), false⟩ :: Rn) ?_ ?_
    ·
     refine wr_case 75 rfl (fun hc4 => ?_) (fun hc4 => ?_)
     ·
      refine wr_yes rfl rfl <| wm rfl rfl <| wr_yes rfl rfl <| wm rfl rfl <| wr_yes rfl rfl <| wm rfl rfl <| wr_yes rfl rfl <| wr_y rfl (y_index1 underlying24 sz3 rfl rfl (fun _ h => h6 _ _ _ (h.right (R' := [_, _, _, _, _, _]))) (by omega) (by omega)) <| wr_yes rfl rfl <| wr_y rfl (y_ldI underlying3 rfl rfl (fun _ h => h6 _ _ _ (h.right (R' := [_, _, _, _, _, _]))) (by omega) (by omega)) <| wr_yes rfl rfl <| wm rfl rfl <| wr_yes rfl rfl <| wr_a rfl (a_callF en154 rfl (Ct.quiet (fun w hw => less14_ct ((h_s.c _) w hw) ((fun _ h => hr2 _ _ _ (h.right (R' := [_, _, _, _, _, _]))) w hw) hRk (hoi (by omega)) hqj hs1 (by omega)))) ?_
      rintro _ _ ⟨rfl, rfl⟩
      refine wr_y rfl (y_pickT rfl rfl) <| wr_nil ?_
      exact ⟨(sc rfl (sc rfl (sc rfl (sc rfl (sc rfl (sc rfl (sc rfl (sc rfl (Sub.to rfl (mb (by first | omega | exact ⟨fun h => ⟨(by assumption), h⟩, fun h => h.2⟩ | exact .inl (by assumption) | exact ⟨.inr, fun h => h.resolve_left (by assumption)⟩ | exact ⟨fun h => h.resolve_left (by assumption), .inr⟩ | simp [*])) Sub.nil))))))))), fun _ h => h⟩
     ·
      refine wr_no rfl rfl rfl rfl <| wr_no rfl rfl rfl rfl <| wr_no rfl rfl rfl rfl <| wr_no rfl rfl rfl rfl <| wr_no rfl rfl rfl rfl <| wr_no rfl rfl rfl rfl <| wr_no rfl rfl rfl rfl <| wr_y rfl (y_pickF rfl rfl) <| wr_nil ?_
      exact ⟨(sc rfl (sc rfl (sc rfl (sc rfl (sc rfl (sc rfl (sc rfl (sc rfl (Sub.to rfl (mb_f (by first | omega | exact ⟨fun h => ⟨(by assumption), h⟩, fun h => h.2⟩ | exact .inl (by assumption) | exact ⟨.inr, fun h => h.resolve_left (by assumption)⟩ | exact ⟨fun h => h.resolve_left (by assumption), .inr⟩ | simp [*])) Sub.nil))))))))), fun _ h => h⟩
    refine wr_nil <| w_if rfl (fun hc5 => ?_) (fun hc5 => ?_)
    ·
     have hyl : y < o1.length := by omega
     have hlo := ordE_cmp.1 hc5.2
     rw [e0] at hlo
     refine w_skip <| w_block <| w_regd mixed <| wd_y 0 rfl (by kernel_rfl) rfl (y_move rfl) <| wd_y 1 rfl (by kernel_rfl) rfl (y_move rfl) <| wd_y 2 rfl (by kernel_rfl) rfl (y_index1 underlying24 sz3 rfl rfl (fun _ h => h6 _ _ _ (h.right (R' := [_, _, _, _, _, _]))) (by omega) (by omega)) <| wd_y 3 rfl (by kernel_rfl) rfl (y_ldI underlying3 rfl rfl (fun _ h => h6 _ _ _ (h.right (R' := [_, _, _, _, _, _]))) (by omega) (by omega)) <| wd_y 6 rfl (by kernel_rfl) rfl (y_move rfl) <| wd_y 7 rfl (by kernel_rfl) rfl (y_sliceFrom underlying24 sz3 rfl rfl (by omega) (by omega)) <| wd_a 4 rfl (by kernel_rfl) rfl (a_litI .i64 [rd (o1.drop y.toNat) 0] underlying24 zs3 rfl rfl rfl) ?_
     rintro _ _ ⟨g_17, rfl, rfl⟩
     refine ⟨.inr fun _ h => h.right (R' := [_]), ?_⟩
     refine wd_a 5 rfl (by kernel_rfl) rfl (a_appendI 1 rfl underlying24 zb3 rfl rfl rfl (rdr 0 rfl) (by omega)) ?_
     rintro _ _ ⟨A_18, c_19, rfl, rfl⟩
     refine ⟨.inl (by kernel_rfl), ?_⟩
     refine wd_rows (R1 := (⟨3, 1, (some ⟨g_17, 0, none⟩), 1, 1, ints .i64 ([rd (o1.drop y.toNat) 0]), false⟩ :: ⟨3, 1, A_18, (nM + 1), c_19, ints .i64 (ac2 ++ ([rd (o1.drop y.toNat) 0])), false⟩ :: ⟨3, 1, A_14, ((ot1).length), c_15, ints .i64 ot2, false⟩ :: ⟨3, 1, A_12, ((s).length), c_13, ints .i64 (keysL s 0), false⟩ :: ⟨3, 1, A_10, (((plc s.length 0)).length), c_11, ints .i64 ot1, false⟩ :: ⟨3, 1, (some ⟨g_9, 0, none⟩), s.length, s.length, ints .i64 V, false⟩ :: ⟨3, 1, A_7, (plc s.length 0).length, c_8, ints .i64 (plc s.length 0), false⟩ :: Rn)) rfl <| wd_as (v := .slice A_18 (nM + 1) c_19) rfl <| wd_y 8 rfl (by kernel_rfl) rfl (y_assign rfl) <| wd_y 9 rfl (by kernel_rfl) rfl (y_assign rfl) <| wd_nil (by kernel_rfl) ?_
     exact ⟨(y + 1), A_18, nM + 1, c_19, ac2 ++ ([rd (o1.drop y.toNat) 0]), cutA AP (1 : Int).toNat cP 1, nP - (1 : Int).toNat, cP - (1 : Int).toNat, ⟨(by omega), (by omega), (by rw [e0]; exact hM2.left hRk.sorted hos2 hy0 (by omega) hq0 hqq hlo), (by rw [List.length_append, hnM]; rfl), (by rw [List.length_drop] at hnP ⊢; omega), (fun B w0 w h => by
        have g := RdC.fromI (l := (1 : Int).toNat) (h6 B w0) (by omega) w h
        rw [List.drop_drop, show y.toNat + (1 : Int).toNat = (y + 1).toNat by omega] at g
        exact g)⟩, (by omega), (sc rfl (sc rfl (sc rfl (sc rfl (sc rfl (sc rfl (sc rfl (sc rfl Sub.nil)))))))), fun _ h => h.selR (F := [_, _, _, _, _, _, _]) (F' := [_, _, _, _, _, _]) [1, 2, 3, 4, 5, 6] (by decide) rfl⟩
    ·
     have hrt : y < o1.length → ordE s (rd ot2 q) (rd o1 y) := fun h => by
      have h1 := hoi h
      rw [e0] at h1 hc5
      rcases ordE_tri h1.1 hqj.1 (by omega) with g | g
      ·exact absurd ⟨by omega, ordE_cmp.2 g⟩ hc5
      ·exact g
     refine w_exit <| w_reg <| wm rfl rfl <| wm rfl rfl <| wr_a rfl (a_litI .i64 [rd ot2 q] underlying24 zs3 rfl rfl rfl) ?_
     rintro _ _ ⟨g_21, rfl, rfl⟩
     refine wr_a rfl (a_appendI 1 rfl underlying24 zb3 rfl rfl rfl (rdr 0 rfl) (by omega)) ?_
     rintro _ _ ⟨A_22, c_23, rfl, rfl⟩
     refine wr_rows (R1 := (⟨3, 1, (some ⟨g_21, 0, none⟩), 1, 1, ints .i64 ([rd ot2 q]), false⟩ :: ⟨3, 1, A_22, (nM + 1), c_23, ints .i64 (ac2 ++ ([rd ot2 q])), false⟩ :: ⟨3, 1, A_14, ((ot1).length), c_15, ints .i64 ot2, false⟩ :: ⟨3, 1, A_12, ((s).length), c_13, ints .i64 (keysL s 0), false⟩ :: ⟨3, 1, A_10, (((plc s.length 0)).length), c_11, ints .i64 ot1, false⟩ :: ⟨3, 1, (some ⟨g_9, 0, none⟩), s.length, s.length, ints .i64 V, false⟩ :: ⟨3, 1, A_7, (plc s.length 0).length, c_8, ints .i64 (plc s.length 0), false⟩ :: Rn)) rfl <| wr_as (v := .slice A_22 (nM + 1) c_23) rfl <| wg rfl rfl <| wr_nil <| w_reg <| wA rfl rfl rfl (by omega) <| wm rfl rfl <| wr_nil ?_
     exact ⟨q + 1, y, A_22, nM + 1, c_23, ac2 ++ ([rd ot2 q]), AP, nP, cP, ⟨(by omega), (by omega), (by omega), (by omega), (hM2.right hRk.sorted hos2 hy0 hq0 (by omega) hrt), (by rw [List.length_append, hnM]; rfl), (hnP), (h6)⟩, (by omega), (sc rfl (sc rfl (sc rfl (sc rfl (sc rfl (sc rfl (sc rfl Sub.nil))))))), fun _ h => h.selR (F := [_, _, _, _, _, _, _]) (F' := [_, _, _, _, _, _]) [1, 2, 3, 4, 5, 6] (by decide) rfl⟩
   ·
    refine w_exit <| wq <| wm rfl rfl <| wm rfl rfl <| wr_a rfl (a_appendI 0 rfl underlying24 zb3 rfl rfl rfl (fun _ h => h5 _ _ _ (h.right (R' := [_, _, _, _, _, _]))) (by have := hnO; rw [List.length_drop] at this; omega)) ?_
    rintro _ _ ⟨A_24, c_25, rfl, rfl⟩
    refine wr_rows (R1 := (⟨3, 1, A_24, (nL + nO), c_25, ints .i64 (acc ++ (o1.drop x.toNat)), false⟩ :: ⟨3, 1, A_14, ((ot1).length), c_15, ints .i64 ot2, false⟩ :: ⟨3, 1, A_12, ((s).length), c_13, ints .i64 (keysL s 0), false⟩ :: ⟨3, 1, A_10, (((plc s.length 0)).length), c_11, ints .i64 ot1, false⟩ :: ⟨3, 1, (some ⟨g_9, 0, none⟩), s.length, s.length, ints .i64 V, false⟩ :: ⟨3, 1, A_7, (plc s.length 0).length, c_8, ints .i64 (plc s.length 0), false⟩ :: Rn)) rfl <| wr_as (v := .slice A_24 (nL + nO) c_25) rfl <| wg rfl rfl <| wr_nil <| w_retR (R1 := [⟨3, 1, A_24, (nL + nO), c_25, ints .i64 (acc ++ (o1.drop x.toNat)), false⟩]) (fun _ h => (h.selR (F := [_, _, _, _, _, _]) (F' := [_]) [0] (by decide) rfl).left (X := [_])) ?_
    refine ⟨_, rfl, ?_⟩
    have hd := hM.done hRk.sorted (by omega) hRk.perm h2p
    have e : nL + nO = s.length := by have := hd.1.length_eq; rw [iota_len, List.length_append] at this; omega
    rw [e]
    exact ⟨_, _, _, rfl, hd.1, hd.2, rfl⟩

theorem sortedAll14 (m : Nat) : ∀ {w : World} {A_s : Option Addr} {n_s c_s : Nat} {s : List Int} {k : Int}, Rd w A_s n_s c_s 1 (ints .i64 s) → s.length < m → ((0 ≤ k ∧ k ≤ 1000000) ∧ ∀ x ∈ s, 0 ≤ x ∧ x < k) → s.length ≤ 100000 →
  Ct Tryz.prog 138 #[.slice A_s n_s c_s, .int .i64 k] w.heap.size w [] (fun v R' => ∃ (b : List Int) (A : Option Addr) (c : Nat), v = .slice A s.length c ∧ b.Perm (iota s.length) ∧ b.Pairwise (ordE s) ∧ R' = [⟨3, 1, A, s.length, c, ints .i64 b, false⟩]) := by
 induction m with
 | zero => intro w A n c s k _ h; omega
 | succ m ih =>
  intro w A n c s k h_s hm hok hN
  exact sortedStep14_ct h_s (fun h1 h2 h3 h4 => ih h1 (by omega) h3 h4) hok hN
theorem skewSorted_ct {w : World} {A_s : Option Addr} {n_s c_s : Nat} {s : List Int} {k : Int} (h_s : Rd w A_s n_s c_s 1 (ints .i64 s)) (hok : (0 ≤ k ∧ k ≤ 1000000) ∧ ∀ x ∈ s, 0 ≤ x ∧ x < k) (hN : s.length ≤ 100000) :
  Ct Tryz.prog 138 #[.slice A_s n_s c_s, .int .i64 k] w.heap.size w [] (fun v R' => ∃ (b : List Int) (A : Option Addr) (c : Nat), v = .slice A s.length c ∧ b.Perm (iota s.length) ∧ b.Pairwise (ordE s) ∧ R' = [⟨3, 1, A, s.length, c, ints .i64 b, false⟩]) := sortedAll14 (s.length + 1) h_s (by omega) hok hN
set_option maxRecDepth 100000 in
set_option maxHeartbeats 600000 in
theorem squeezed14_ct {w : World} {A_s : Option Addr} {n_s c_s : Nat} {s : List Int} (h_s : Rd w A_s n_s c_s 1 (ints .i64 s)) (hs : ∀ x ∈ s, 0 ≤ x ∧ x < 1048576) (hN : s.length ≤ 100000) :
  Ct Tryz.prog 139 #[.slice A_s n_s c_s] w.heap.size w [] (fun v R' => ∃ (m : Int) (A : Option Addr) (c : Nat), v = .slice A s.length c ∧ (∀ x ∈ s, 0 ≤ x ∧ x ≤ m) ∧ R' = [⟨3, 1, A, s.length, c, ints .i64 (sqz s m), false⟩]) := by
 obtain rfl := h_s.lenI
 refine fn1 Tryz.func139 rfl rfl rfl ?_
 have m_s := h_s.max
 refine wq <| wg rfl rfl <| wr_nil <| wq <| wg rfl rfl <| wr_nil <| w_seq <| wq <| wm rfl rfl <| wr_y rfl (y_len underlying24 rfl) <| wm rfl rfl <| wr_nil ?_
 refine w_block ?_
 refine w_loop2 (fun (i : Int) (m : Int) => [(0, .slice A_s s.length c_s), (3, .int .i64 m), (13, .slice A_s s.length c_s), (14, .int .i64 ((s.length : Nat) : Int)), (15, .int .i64 i)]) (fun (i : Int) (m : Int) => []) (fun (i : Int) (m : Int) => (0 ≤ i) ∧ (i ≤ s.length) ∧ (0 ≤ m) ∧ (m ≤ 1048575) ∧ (∀ x ∈ s.take i.toNat, x ≤ m)) (fun (i : Int) (m : Int) => (s.length - i).toNat) ?_ ?_
 ·
  exact ⟨0, 0, ⟨(by omega), (by omega), (by omega), (by omega), (fun x hx => by cases hx)⟩, (sc rfl (sc rfl (sc rfl (sc rfl (sc rfl Sub.nil))))), fun _ h => h⟩
 intro i m ⟨hi0, hi1, hm0, hmk, hmx⟩
 refine wq <| wL rfl rfl rfl <| wr_nil <| w_seq <| w_if rfl (fun hc1 => ?_) (fun hc1 => ?_)
 ·
  have hsi := hs _ (rd_mem (L := s) hi0 (by omega))
  refine w_skip <| w_seq <| w_block <| wq <| wr_y rfl (y_index1 underlying24 sz3 rfl rfl (h_s.c _) (by omega) (by omega)) <| wr_y rfl (y_ldI underlying3 rfl rfl (h_s.c _) (by omega) (by omega)) <| wg rfl rfl <| wr_nil <| w_reg <| wm rfl rfl <| wm rfl rfl <| wr_y rfl (y_max rfl rfl) <| wg rfl rfl <| wr_nil ?_
  refine w_reg <| wA rfl rfl rfl (by omega) <| wm rfl rfl <| wr_nil ?_
  exact ⟨i + 1, max m (rd s i), ⟨(by omega), (by omega), (by omega), (by omega), (fun x hx => by
    rw [take_rd hi0 (by omega)] at hx
    rcases List.mem_append.1 hx with hx | hx
    ·have := hmx x hx; omega
    ·rw [List.mem_singleton.1 hx]; omega)⟩, (by omega), (sc rfl (sc rfl (sc rfl (sc rfl (sc rfl Sub.nil))))), fun _ h => h⟩
 ·
  rw [List.take_of_length_le (by omega)] at hmx
  refine w_exit <| wq <| wm rfl rfl <| wA rfl rfl rfl (by omega) <| wr_a rfl (a_makeN underlying24 zb3 rfl rfl (by omega) (by omega) (by omega)) ?_
  rintro _ _ ⟨g_1, rfl, rfl⟩
  refine wr_rows (R1 := [⟨3, 1, (some ⟨g_1, 0, none⟩), ((m + 1).toNat), ((m + 1).toNat), ints .i64 (List.replicate ((m + 1).toNat) (0 : Int)), false⟩]) rfl <| wr_as (v := .slice (some ⟨g_1, 0, none⟩) ((m + 1).toNat) ((m + 1).toNat)) rfl <| wg rfl rfl <| wr_nil <| w_seq <| wq <| wm rfl rfl <| wr_y rfl (y_len underlying24 rfl) <| wm rfl rfl <| wr_nil <| w_block ?_
  refine w_loop2 (fun (j : Int) (V : List Int) => [(0, .slice A_s s.length c_s), (6, .slice (some ⟨g_1, 0, none⟩) ((m + 1).toNat) ((m + 1).toNat)), (26, .slice A_s s.length c_s), (27, .int .i64 ((s.length : Nat) : Int)), (28, .int .i64 j)]) (fun (j : Int) (V : List Int) => [⟨3, 1, (some ⟨g_1, 0, none⟩), ((m + 1).toNat), ((m + 1).toNat), ints .i64 V, false⟩]) (fun (j : Int) (V : List Int) => (0 ≤ j) ∧ (j ≤ s.length) ∧ (V = thr (s.take j.toNat) m)) (fun (j : Int) (V : List Int) => (s.length - j).toNat) ?_ ?_
  ·
   exact ⟨0, List.replicate ((m + 1).toNat) (0 : Int), ⟨(by omega), (by omega), ((thr_nil m).symm)⟩, (sc rfl (sc rfl (sc rfl (sc rfl (sc rfl Sub.nil))))), fun _ h => h⟩
  intro j V ⟨hj0, hj1, hV⟩
  refine wq <| wL rfl rfl rfl <| wr_nil <| w_seq <| w_if rfl (fun hc2 => ?_) (fun hc2 => ?_)
  ·
   have hsj : 0 ≤ rd s j ∧ rd s j ≤ m := ⟨(hs _ (rd_mem (L := s) hj0 (by omega))).1, hmx _ (rd_mem (L := s) hj0 (by omega))⟩
   have hVl : V.length = (m + 1).toNat := by rw [hV, thr_len]
   refine w_skip <| w_seq <| w_block <| wq <| wr_y rfl (y_index1 underlying24 sz3 rfl rfl (h_s.c _) (by omega) (by omega)) <| wr_y rfl (y_ldI underlying3 rfl rfl (h_s.c _) (by omega) (by omega)) <| wg rfl rfl <| wr_nil <| w_reg <| wm rfl rfl <| wm rfl rfl <| wr_y rfl (y_index1 underlying24 sz3 rfl rfl (rdr 0 rfl) (by omega) (by omega)) <| wr_n (a_storeI 0 rfl sz3 rfl rfl (by omega) (by omega)) ?_
   rintro _ _ rfl
   refine wr_rows (R1 := [⟨3, 1, (some ⟨g_1, 0, none⟩), ((m + 1).toNat), ((m + 1).toNat), ints .i64 (upd V (rd s j) 1), false⟩]) rfl <| wr_nil <| w_reg <| wA rfl rfl rfl (by omega) <| wm rfl rfl <| wr_nil ?_
   exact ⟨j + 1, upd V (rd s j) 1, ⟨(by omega), (by omega), (by rw [take_rd hj0 (by omega), ← thr_step hsj.1 hsj.2, ← hV])⟩, (by omega), (sc rfl (sc rfl (sc rfl (sc rfl (sc rfl Sub.nil))))), fun _ h => h⟩
  ·
   have hVs : V = thr s m := by rw [hV, List.take_of_length_le (by omega)]
   have hSl : (startsV V).length = (m + 1).toNat := by rw [startsV_len, hVs, thr_len]
   refine w_exit <| wq <| wm rfl rfl <| wr_a rfl (a_callF en95 rfl (Ct.fresh (fun w hw => starts_ct ((rdr 0 rfl) w hw) (by rw [hVs]; exact thr_nn s m) (by rw [hVs]; have := thr_sum s m; omega) (by rw [hVs, thr_len]; omega)))) ?_
   rintro _ _ ⟨_, rfl, A_2, c_3, rfl, rfl⟩
   refine wg rfl rfl <| wr_nil <| wq <| wm rfl rfl <| wr_y rfl (y_len underlying24 rfl) <| wr_a rfl (a_makeN underlying24 zb3 rfl rfl (by omega) (by omega) (by omega)) ?_
   rintro _ _ ⟨g_5, rfl, rfl⟩
   refine wr_rows (R1 := [⟨3, 1, (some ⟨g_5, 0, none⟩), s.length, s.length, ints .i64 (List.replicate s.length (0 : Int)), false⟩, ⟨3, 1, A_2, (startsV V).length, c_3, ints .i64 (startsV V), false⟩, ⟨3, 1, (some ⟨g_1, 0, none⟩), ((m + 1).toNat), ((m + 1).toNat), ints .i64 V, false⟩]) rfl <| wr_as (v := .slice (some ⟨g_5, 0, none⟩) s.length s.length) rfl <| wg rfl rfl <| wr_nil <| w_seq <| wq <| wm rfl rfl <| wr_y rfl (y_len underlying24 rfl) <| wm rfl rfl <| wr_nil <| w_block ?_
   refine w_loop2 (fun (z : Int) (U : List Int) => [(9, .slice A_2 ((startsV V).length) c_3), (10, .slice (some ⟨g_5, 0, none⟩) s.length s.length), (41, .slice A_s s.length c_s), (42, .int .i64 ((s.length : Nat) : Int)), (43, .int .i64 z)]) (fun (z : Int) (U : List Int) => [⟨3, 1, (some ⟨g_5, 0, none⟩), s.length, s.length, ints .i64 U, false⟩, ⟨3, 1, A_2, (startsV V).length, c_3, ints .i64 (startsV V), false⟩, ⟨3, 1, (some ⟨g_1, 0, none⟩), ((m + 1).toNat), ((m + 1).toNat), ints .i64 V, false⟩]) (fun (z : Int) (U : List Int) => (0 ≤ z) ∧ (z ≤ s.length) ∧ (U.length = s.length) ∧ (∀ j : Int, 0 ≤ j → j < z → rd U j = rd (startsV (thr s m)) (rd s j))) (fun (z : Int) (U : List Int) => (s.length - z).toNat) ?_ ?_
   ·
    exact ⟨0, List.replicate s.length (0 : Int), ⟨(by omega), (by omega), (by rw [List.length_replicate]), (fun j h1 h2 => by omega)⟩, (sc rfl (sc rfl (sc rfl (sc rfl (sc rfl Sub.nil))))), fun _ h => h⟩
   intro z U ⟨hz0, hz1, hUl, hU⟩
   refine wq <| wL rfl rfl rfl <| wr_nil <| w_seq <| w_if rfl (fun hc3 => ?_) (fun hc3 => ?_)
   ·
    have hsz : 0 ≤ rd s z ∧ rd s z ≤ m := ⟨(hs _ (rd_mem (L := s) hz0 (by omega))).1, hmx _ (rd_mem (L := s) hz0 (by omega))⟩
    refine w_skip <| w_seq <| w_block <| wq <| wm rfl rfl <| wr_y rfl (y_index1 underlying24 sz3 rfl rfl (h_s.c _) (by omega) (by omega)) <| wr_y rfl (y_ldI underlying3 rfl rfl (h_s.c _) (by omega) (by omega)) <| wg rfl rfl <| wg rfl rfl <| wr_nil <| w_reg <| wm rfl rfl <| wm rfl rfl <| wm rfl rfl ?_
    refine wm rfl rfl <| wr_y rfl (y_index1 underlying24 sz3 rfl rfl (rdr 1 rfl) (by omega) (by omega)) <| wr_y rfl (y_ldI underlying3 rfl rfl (rdr 1 rfl) (by omega) (by omega)) <| wr_y rfl (y_index1 underlying24 sz3 rfl rfl (rdr 0 rfl) (by omega) (by omega)) <| wr_n (a_storeI 0 rfl sz3 rfl rfl (by omega) (by omega)) ?_
    rintro _ _ rfl
    refine wr_rows (R1 := [⟨3, 1, (some ⟨g_5, 0, none⟩), s.length, s.length, ints .i64 (upd U z (rd (startsV V) (rd s z))), false⟩, ⟨3, 1, A_2, (startsV V).length, c_3, ints .i64 (startsV V), false⟩, ⟨3, 1, (some ⟨g_1, 0, none⟩), ((m + 1).toNat), ((m + 1).toNat), ints .i64 V, false⟩]) rfl <| wr_nil <| w_reg <| wA rfl rfl rfl (by omega) <| wm rfl rfl <| wr_nil ?_
    exact ⟨z + 1, upd U z (rd (startsV V) (rd s z)), ⟨(by omega), (by omega), (by rw [upd_length]; exact hUl), (fill_step (f := fun j => rd (startsV (thr s m)) (rd s j)) hz0 (by omega) hU (by rw [hVs]))⟩, (by omega), (sc rfl (sc rfl (sc rfl (sc rfl (sc rfl Sub.nil))))), fun _ h => h⟩
   ·
    refine w_exit <| wq <| wm rfl rfl <| wg rfl rfl <| wr_nil <| w_retR (R1 := [⟨3, 1, (some ⟨g_5, 0, none⟩), s.length, s.length, ints .i64 U, false⟩]) (fun _ h => h.sel [0] (by decide) rfl) ?_
    refine ⟨_, rfl, ?_⟩
    have hall : ∀ x ∈ s, 0 ≤ x ∧ x ≤ m := fun x hx => ⟨(hs x hx).1, hmx x hx⟩
    obtain rfl : U = sqz s m := sqz_of hall hUl (fun j h1 h2 => hU j h1 (by omega))
    exact ⟨m, _, _, rfl, hall, rfl⟩

set_option maxRecDepth 100000 in
theorem kints_ct {w : World} {A_s : Option Addr} {n_s c_s : Nat} {s : List Int} {k : Int} (h_s : Rd w A_s n_s c_s 1 (ints .i64 s)) (hok : (0 ≤ k ∧ k ≤ 1048576) ∧ ∀ x ∈ s, 0 ≤ x ∧ x < k) (hN : s.length ≤ 100000) :
  Ct Tryz.prog 107 #[.slice A_s n_s c_s, .int .i64 k] w.heap.size w [] (fun v R' => ∃ (b : List Int) (A : Option Addr) (c : Nat), v = .tuple #[.slice A s.length c, .int .i64 0] ∧ b.Perm (iota s.length) ∧ b.Pairwise (ordE s) ∧ R' = [⟨3, 1, A, s.length, c, ints .i64 b, false⟩]) := by
 obtain rfl := h_s.lenI
 refine fn2 Tryz.func107 rfl rfl rfl ?_
 have m_s := h_s.max
 refine wq <| wg rfl rfl <| wg rfl rfl <| wr_nil <| w_seq <| wq <| wm rfl rfl <| wr_y rfl (y_len underlying24 rfl) <| wr_y rfl (Yl.f (y_gt rfl rfl) (by omega)) <| wr_nil <| w_false rfl <| w_skip <| w_seq ?_
 refine wq <| wm rfl rfl <| wm rfl rfl <| wr_a rfl (a_callF en94 rfl (Ct.fresh (fun w hw => countsOk_ct ((h_s.c _) w hw) (by first | assumption | omega | decide)))) ?_
 rintro _ _ ⟨_, rfl, A_1, c_2, rfl, rfl⟩
 refine wm rfl rfl <| wX rfl rfl rfl <| wX rfl rfl rfl <| wg rfl rfl <| wg rfl rfl <| wr_nil <| wq <| wm rfl rfl <| wr_y rfl (y_not rfl) <| wr_nil <| w_false rfl <| w_skip <| wq ?_
 refine wm rfl rfl <| wr_a rfl (a_callF en139 rfl (Ct.fresh (fun w hw => squeezed14_ct ((h_s.c _) w hw) (fun x hx => by have := hok.2 x hx; omega) hN))) ?_
 rintro _ _ ⟨_, rfl, mq, A_4, c_5, rfl, hmq, rfl⟩
 refine wm rfl rfl <| wr_y rfl (y_len underlying24 rfl) <| wA rfl rfl rfl (by omega) <| wr_a rfl (a_callF en138 rfl (Ct.fresh (fun w hw => skewSorted_ct ((rdr 0 rfl) w hw) ⟨by omega, fun x hx => by have := sqz_bd hmq x hx; omega⟩ (by rw [sqz_len]; exact hN)))) ?_
 rintro _ _ ⟨_, rfl, b1, A_7, c_8, rfl, hp_b1, hs_b1, rfl⟩
 refine wg rfl rfl <| wg rfl rfl <| wr_nil <| w_retR (R1 := [⟨3, 1, A_7, (sqz s mq).length, c_8, ints .i64 b1, false⟩]) (fun _ h => h.sel [0] (by decide) rfl) ?_
 refine ⟨_, _, rfl, rfl, ?_⟩
 have ho := sqz_order hmq hp_b1 hs_b1
 rw [sqz_len]
 exact ⟨b1, _, _, rfl, ho.1, ho.2, rfl⟩

set_option maxRecDepth 100000 in
theorem kbytes_ct {w : World} {A_u : Option Addr} {n_u c_u : Nat} {u : List Int} (h_u : Rd w A_u n_u c_u 1 (ints .u8 u)) (bh_u : ByteL u) (hN : u.length ≤ 100000) :
  Ct Tryz.prog 77 #[.slice A_u n_u c_u] w.heap.size w [] (fun v R' => ∃ (b : List Int) (A : Option Addr) (c : Nat), v = .tuple #[.slice A u.length c, .int .i64 0] ∧ b.Perm (iota u.length) ∧ b.Pairwise (ordE u) ∧ R' = [⟨3, 1, A, u.length, c, ints .i64 b, false⟩]) := by
 obtain rfl := h_u.lenI
 refine fn2 Tryz.func77 rfl rfl rfl ?_
 have m_u := h_u.max
 refine wq <| wg rfl rfl <| wg rfl rfl <| wr_nil <| w_seq <| wq <| wm rfl rfl <| wr_y rfl (y_len underlying23 rfl) <| wr_y rfl (Yl.f (y_gt rfl rfl) (by omega)) <| wr_nil <| w_false rfl <| w_skip <| w_seq ?_
 refine w_reg <| wm rfl rfl <| wr_y rfl (y_len underlying23 rfl) <| wr_a rfl (a_makeN underlying24 zb3 rfl rfl (by omega) (by omega) (by omega)) ?_
 rintro _ _ ⟨g_1, rfl, rfl⟩
 refine wr_rows (R1 := [⟨3, 1, (some ⟨g_1, 0, none⟩), u.length, u.length, ints .i64 (List.replicate u.length (0 : Int)), false⟩]) rfl <| wr_as (v := .slice (some ⟨g_1, 0, none⟩) u.length u.length) rfl <| wg rfl rfl <| wr_nil <| w_seq <| wq <| wm rfl rfl <| wr_y rfl (y_len underlying23 rfl) <| wm rfl rfl <| wr_nil <| w_block ?_
 refine w_loop2 (fun (i : Int) (V : List Int) => [(4, .slice (some ⟨g_1, 0, none⟩) u.length u.length), (13, .slice A_u u.length c_u), (14, .int .i64 ((u.length : Nat) : Int)), (15, .int .i64 i)]) (fun (i : Int) (V : List Int) => [⟨3, 1, (some ⟨g_1, 0, none⟩), u.length, u.length, ints .i64 V, false⟩]) (fun (i : Int) (V : List Int) => (0 ≤ i) ∧ (i ≤ u.length) ∧ (V.length = u.length) ∧ (∀ j : Int, 0 ≤ j → j < i → rd V j = rd u j)) (fun (i : Int) (V : List Int) => (u.length - i).toNat) ?_ ?_
 ·
  exact ⟨0, List.replicate u.length (0 : Int), ⟨(by omega), (by omega), (by rw [List.length_replicate]), (fun j h1 h2 => by omega)⟩, (sc rfl (sc rfl (sc rfl (sc rfl Sub.nil)))), fun _ h => h⟩
 intro i V ⟨hi0, hi1, hVl, hV⟩
 refine wq <| wL rfl rfl rfl <| wr_nil <| w_seq <| w_if rfl (fun hc1 => ?_) (fun hc1 => ?_)
 ·
  have hbi := bh_u.rd i
  refine w_skip <| w_seq <| w_block <| wq <| wm rfl rfl <| wr_y rfl (y_index1 underlying23 sz5 rfl rfl (h_u.c _) (by omega) (by omega)) <| wr_y rfl (y_ldI underlying5 rfl rfl (h_u.c _) (by omega) (by omega)) <| wg rfl rfl <| wg rfl rfl <| wr_nil <| w_reg <| wm rfl rfl <| wm rfl rfl <| wm rfl rfl ?_
  refine wr_y rfl (y_convI underlying5 underlying3 rfl (by omega)) <| wr_y rfl (y_index1 underlying24 sz3 rfl rfl (rdr 0 rfl) (by omega) (by omega)) <| wr_n (a_storeI 0 rfl sz3 rfl rfl (by omega) (by omega)) ?_
  rintro _ _ rfl
  refine wr_rows (R1 := [⟨3, 1, (some ⟨g_1, 0, none⟩), u.length, u.length, ints .i64 (upd V i (rd u i)), false⟩]) rfl <| wr_nil <| w_reg <| wA rfl rfl rfl (by omega) <| wm rfl rfl <| wr_nil ?_
  exact ⟨i + 1, upd V i (rd u i), ⟨(by omega), (by omega), (by rw [upd_length]; exact hVl), (fill_step (f := fun j => rd u j) hi0 (by omega) hV rfl)⟩, (by omega), (sc rfl (sc rfl (sc rfl (sc rfl Sub.nil)))), fun _ h => h⟩
 ·
  have hVu : V = u := list_ext_rd hVl (fun j h1 h2 => hV j h1 (by omega))
  refine w_exit <| wq <| wm rfl rfl <| wr_a rfl (a_callF en107 rfl (Ct.fresh (fun w hw => kints_ct ((rdr 0 rfl) w hw) ⟨by omega, fun x hx => by rw [hVu] at hx; have := bh_u x hx; omega⟩ (by omega)))) ?_
  rintro _ _ ⟨_, rfl, b1, A_2, c_3, rfl, hp_b1, hs_b1, rfl⟩
  refine wX rfl rfl rfl <| wX rfl rfl rfl <| wg rfl rfl <| wg rfl rfl <| wr_nil <| w_retR (R1 := [⟨3, 1, A_2, V.length, c_3, ints .i64 b1, false⟩]) (fun _ h => h.sel [0] (by decide) rfl) ?_
  refine ⟨_, _, rfl, rfl, ?_⟩
  subst hVu
  exact ⟨b1, _, _, rfl, hp_b1, hs_b1, rfl⟩

end Go.Proofs.YtdfcnalkdlifiaaGreat

/-! ## Q41 -/
namespace Go.Pure
open Go Go.Eng
/-- Two endings have a number alike so many places on. -/
def eqAt (s : List Int) (i j : Nat) (d : Nat) : Prop := (i + d < s.length ∧ j + d < s.length) ∧ lt s (i + d) = lt s (j + d)
instance (s : List Int) (i j d : Nat) : Decidable (eqAt s i j d) := by unfold eqAt; exact inferInstance
def comF (s : List Int) : Nat → Nat → Nat → Nat
 | 0, _, _ => 0
 | f + 1, i, j => if eqAt s i j 0 then comF s f (i + 1) (j + 1) + 1 else 0
/-- How many numbers two endings begin with alike. -/
def com (s : List Int) (i j : Int) : Nat := comF s s.length i.toNat j.toNat
theorem eqAt_add {s : List Int} {i j m d : Nat} : eqAt s (i + m) (j + m) d ↔ eqAt s i j (m + d) := by
 unfold eqAt
 rw [Nat.add_assoc, Nat.add_assoc]
theorem comF_all {s : List Int} : ∀ (f i j : Nat), ∀ d, d < comF s f i j → eqAt s i j d
 | 0, i, j, d, h => by simp [comF] at h
 | f + 1, i, j, d, h => by
  unfold comF at h
  split at h
  ·rename_i c
   cases d with
   | zero => exact c
   | succ d =>
    have := comF_all (s := s) f (i + 1) (j + 1) d (by omega)
    rwa [eqAt_add, Nat.add_comm] at this
  ·omega
theorem comF_end {s : List Int} : ∀ (f i j : Nat), s.length ≤ i + f → ¬ eqAt s i j (comF s f i j)
 | 0, i, j, h => by
  unfold comF eqAt
  omega
 | f + 1, i, j, h => by
  unfold comF
  by_cases c : eqAt s i j 0
  ·rw [if_pos c]
   have := comF_end (s := s) f (i + 1) (j + 1) (by omega)
   rwa [eqAt_add, Nat.add_comm] at this
  ·rw [if_neg c]; exact c
theorem com_all {s : List Int} {i j : Int} : ∀ d, d < com s i j → eqAt s i.toNat j.toNat d := comF_all _ _ _
theorem com_end {s : List Int} {i j : Int} : ¬ eqAt s i.toNat j.toNat (com s i j) := comF_end _ _ _ (by omega)
theorem com_eq {s : List Int} {i j : Int} {n : Nat} (h : ∀ d, d < n → eqAt s i.toNat j.toNat d) (he : ¬ eqAt s i.toNat j.toNat n) : com s i j = n := by
 rcases Nat.lt_trichotomy (com s i j) n with a | a | a
 ·exact absurd (h _ a) com_end
 ·exact a
 ·exact absurd (com_all _ a) he
theorem com_le {s : List Int} {i j : Int} {n : Nat} : n ≤ com s i j ↔ ∀ d, d < n → eqAt s i.toNat j.toNat d := by
 refine ⟨fun h d hd => com_all d (by omega), fun h => Nat.not_lt.1 fun c => ?_⟩
 exact com_end (h _ c)
theorem com_sub {s : List Int} {i j : Int} {n : Nat} (i0 : 0 ≤ i) (j0 : 0 ≤ j) (h : n ≤ com s i j) : com s (i + n) (j + n) = com s i j - n := by
 refine com_eq (fun d hd => ?_) ?_
 ·rw [show (i + (n : Int)).toNat = i.toNat + n by omega, show (j + (n : Int)).toNat = j.toNat + n by omega, eqAt_add]
  exact com_all _ (by omega)
 ·rw [show (i + (n : Int)).toNat = i.toNat + n by omega, show (j + (n : Int)).toNat = j.toNat + n by omega, eqAt_add, show n + (com s i j - n) = com s i j by omega]
  exact com_end
theorem com_bd {s : List Int} {i j : Int} (i0 : 0 ≤ i) (hi : i ≤ s.length) (j0 : 0 ≤ j) (hj : j ≤ s.length) : i + com s i j ≤ s.length ∧ j + com s i j ≤ s.length := by
 rcases Nat.eq_zero_or_pos (com s i j) with z | z
 ·omega
 ·have := (com_all (s := s) (i := i) (j := j) (com s i j - 1) (by omega)).1
  omega
/-- As the loops ask for it. -/
theorem eqAt_rd {s : List Int} {i j n : Int} (i0 : 0 ≤ i) (j0 : 0 ≤ j) (n0 : 0 ≤ n) : eqAt s i.toNat j.toNat n.toNat ↔ max i j + n < s.length ∧ rd s (i + n) = rd s (j + n) := by
 unfold eqAt rd lt
 rw [show (i + n).toNat = i.toNat + n.toNat by omega, show (j + n).toNat = j.toNat + n.toNat by omega]
 omega
theorem com_up {s : List Int} {i j n : Int} (i0 : 0 ≤ i) (j0 : 0 ≤ j) (n0 : 0 ≤ n) (h : n.toNat ≤ com s i j) (hc : max i j + n < s.length ∧ rd s (i + n) = rd s (j + n)) : (n + 1).toNat ≤ com s i j := by
 rw [com_le] at h ⊢
 intro d hd
 rcases Nat.lt_or_ge d n.toNat with a | a
 ·exact h d a
 ·rw [show d = n.toNat by omega]
  exact (eqAt_rd i0 j0 n0).2 hc
theorem com_stop {s : List Int} {i j n : Int} (i0 : 0 ≤ i) (j0 : 0 ≤ j) (n0 : 0 ≤ n) (h : n.toNat ≤ com s i j) (hc : ¬ (max i j + n < s.length ∧ rd s (i + n) = rd s (j + n))) : n = com s i j := by
 have := com_eq (com_le.1 h) fun h => hc ((eqAt_rd i0 j0 n0).1 h)
 omega
theorem com_eqH {s : List Int} {i j : Int} {n : Nat} (hi : 0 ≤ i ∧ i < s.length) (hj : 0 ≤ j ∧ j < s.length) (hij : i ≠ j) : n ≤ com s i j ↔ EqH n (eu s i.toNat) (eu s j.toNat) := by
 rw [com_le]
 constructor
 ·intro h d hd
  obtain ⟨⟨a, b⟩, c⟩ := h d hd
  unfold eu
  rw [if_pos a, if_pos b, c]
 ·intro h d hd
  have r1 := eq_room (s := s) (i := i.toNat) (j := j.toNat) (by omega) (by omega) (by omega) h
  have r2 := eq_room (s := s) (i := j.toNat) (j := i.toNat) (by omega) (by omega) (by omega) h.symm
  refine ⟨⟨by omega, by omega⟩, ?_⟩
  have := h d hd
  unfold eu at this
  rw [if_pos (by omega), if_pos (by omega)] at this
  omega
/-- What is between two that have so many alike has them too. -/
theorem eq_between {n : Nat} {U V W : Nat → Int} (e : EqH n U W) (h1 : ¬ LtO V U) (h2 : ¬ LtO W V) : EqH n U V := by
 rcases tri n U V with a | a | a
 ·exact absurd (ltO_of (e.symm.ltH a)) h2
 ·exact a
 ·exact absurd (ltO_of a) h1
/-- All places in order, and which one each is. -/
structure OrdR (s a R : List Int) : Prop where
 perm : a.Perm (iota s.length)
 sorted : a.Pairwise (ordE s)
 len : R.length = s.length
 inv : ∀ r : Int, 0 ≤ r → r < s.length → rd R (rd a r) = r
section
variable {s a R : List Int}
theorem OrdR.alen (h : OrdR s a R) : a.length = s.length := by rw [h.perm.length_eq, iota_len]
theorem OrdR.ain (h : OrdR s a R) {r : Int} (r0 : 0 ≤ r) (hr : r < s.length) : 0 ≤ rd a r ∧ rd a r < s.length := mem_iota.1 (h.perm.subset (rd_mem r0 (by rw [h.alen]; exact hr)))
theorem OrdR.at_ (h : OrdR s a R) {i : Int} (i0 : 0 ≤ i) (hi : i < s.length) : (0 ≤ rd R i ∧ rd R i < s.length) ∧ rd a (rd R i) = i := by
 obtain ⟨p, p0, p1, e⟩ := idx_of (h.perm.symm.subset (mem_iota.2 ⟨i0, hi⟩))
 rw [h.alen] at p1
 have := h.inv p p0 p1
 rw [e] at this
 rw [this]
 exact ⟨⟨p0, p1⟩, e⟩
theorem OrdR.ord (h : OrdR s a R) {p q : Int} (p0 : 0 ≤ p) (hpq : p < q) (hq : q < s.length) : ordE s (rd a p) (rd a q) := pairwise_rd h.sorted p0 hpq (by rw [h.alen]; exact hq)
theorem OrdR.rank (h : OrdR s a R) {i j : Int} (hi : 0 ≤ i ∧ i < s.length) (hj : 0 ≤ j ∧ j < s.length) : rd R i < rd R j ↔ ordE s i j := by
 obtain ⟨a1, a2⟩ := h.at_ hi.1 hi.2
 obtain ⟨b1, b2⟩ := h.at_ hj.1 hj.2
 constructor
 ·intro c
  have := h.ord a1.1 c b1.2
  rwa [a2, b2] at this
 ·intro c
  rcases Int.lt_trichotomy (rd R i) (rd R j) with d | d | d
  ·exact d
  ·rw [d, b2] at a2
   rw [a2] at c
   exact absurd c (ordE_asymm _ _ c)
  ·have := h.ord b1.1 d a1.2
   rw [a2, b2] at this
   exact absurd c (ordE_asymm _ _ this)
/-- Kasai's law: one place on they have at most one less alike. -/
theorem kasai_step (h : OrdR s a R) {i : Int} (i0 : 0 ≤ i) (hi : i + 1 < s.length) (h1 : 0 < rd R i) (h2 : 0 < rd R (i + 1)) :
  com s i (rd a (rd R i - 1)) - 1 ≤ com s (i + 1) (rd a (rd R (i + 1) - 1)) := by
 rcases Nat.lt_or_ge 1 (com s i (rd a (rd R i - 1))) with c | c
 ·obtain ⟨ra, rb⟩ := h.at_ i0 (by omega)
  obtain ⟨sa, sb⟩ := h.at_ (i := i + 1) (by omega) hi
  generalize hj : rd a (rd R i - 1) = j at c ⊢
  generalize hp : rd a (rd R (i + 1) - 1) = p
  have jin := h.ain (r := rd R i - 1) (by omega) (by omega)
  have pin := h.ain (r := rd R (i + 1) - 1) (by omega) (by omega)
  rw [hj] at jin
  rw [hp] at pin
  have oji := h.ord (p := rd R i - 1) (q := rd R i) (by omega) (by omega) ra.2
  rw [hj, rb] at oji
  have opi := h.ord (p := rd R (i + 1) - 1) (q := rd R (i + 1)) (by omega) (by omega) sa.2
  rw [hp, sb] at opi
  have hji : j ≠ i := fun e => by rw [e] at oji; exact ordE_asymm _ _ oji oji
  have hpi : p ≠ i + 1 := fun e => by rw [e] at opi; exact ordE_asymm _ _ opi opi
  have bj := com_bd (s := s) (i := i) (j := j) (by omega) (by omega) (by omega) (by omega)
  have hj1 : j + 1 < s.length := by omega
  have e := (com_eqH (n := com s i j) ⟨i0, by omega⟩ jin (Ne.symm hji)).1 (Nat.le_refl _)
  have e1 : EqH 1 (eu s j.toNat) (eu s i.toNat) := (e.mono (by omega)).symm
  have o1 : LtO (eu s (j + 1).toNat) (eu s (i + 1).toNat) := by
   rw [show (j + 1).toNat = j.toNat + 1 by omega, show (i + 1).toNat = i.toNat + 1 by omega, ltO_eu e1]
   exact ordE_O.1 oji
  have r1 := (h.rank (i := j + 1) (j := i + 1) ⟨by omega, hj1⟩ ⟨by omega, hi⟩).2 (ordE_O.2 o1)
  obtain ⟨ta, tb⟩ := h.at_ (i := j + 1) (by omega) hj1
  have e2 : EqH (com s i j - 1) (eu s (i + 1).toNat) (eu s (j + 1).toNat) := fun d hd => by
   have := e (d + 1) (by omega)
   rw [show (j + 1).toNat = j.toNat + 1 by omega, show (i + 1).toNat = i.toNat + 1 by omega, eu_add, eu_add, Nat.add_comm 1 d]
   exact this
  refine (com_eqH ⟨by omega, hi⟩ pin (Ne.symm hpi)).2 ?_
  have hle : j + 1 = p ∨ ordE s (j + 1) p := by
   rcases Int.lt_or_le (rd R (j + 1)) (rd R (i + 1) - 1) with d | d
   ·have := h.ord ta.1 d (by omega)
    rw [tb, hp] at this
    exact .inr this
   ·refine .inl ?_
    rw [← tb, ← hp]
    congr 1
    omega
  rcases hle with rfl | hle
  ·exact e2
  ·refine e2.trans' (eq_between e2.symm (fun g => ?_) fun g => ?_)
   ·exact ordE_asymm _ _ hle (ordE_O.2 g)
   ·exact ordE_asymm _ _ opi (ordE_O.2 g)
 ·omega
/-- How much neighbours have alike. -/
def lcpV (s a : List Int) : List Int := (List.range a.length).map fun r : Nat => if r = 0 then 0 else (com s (rd a r) (rd a ((r : Int) - 1)) : Int)
theorem lcpV_len (s a : List Int) : (lcpV s a).length = a.length := by simp [lcpV]
theorem rd_lcpV {r : Int} (h0 : 0 ≤ r) (h : r < a.length) : rd (lcpV s a) r = if r = 0 then 0 else (com s (rd a r) (rd a (r - 1)) : Int) := by
 unfold lcpV
 rw [rd_range h0 (by omega), show ((r.toNat : Nat) : Int) = r by omega]
 by_cases c : r = 0
 ·rw [if_pos c, if_pos (by omega)]
 ·rw [if_neg c, if_neg (by omega)]
/-- Out of the ranks, so many places in. -/
structure KasI (s a R V : List Int) (i n : Int) : Prop where
 len : V.length = s.length
 n0 : 0 ≤ n
 nl : i < s.length → 0 < rd R i → n.toNat ≤ com s i (rd a (rd R i - 1))
 val : ∀ p : Int, 0 ≤ p → p < i → rd V (rd R p) = rd (lcpV s a) (rd R p)
 zero : 0 < s.length → rd V 0 = 0
theorem kasI_zero : KasI s a R (List.replicate s.length 0) 0 0 := ⟨List.length_replicate, by omega, fun _ _ => Nat.zero_le _, fun p h1 h2 => by omega, fun _ => rd_replicate⟩
variable {V : List Int} {i n : Int}
theorem KasI.skip (k : KasI s a R V i n) (h : OrdR s a R) (i0 : 0 ≤ i) (hi : i < s.length) (hr : rd R i = 0) : KasI s a R V (i + 1) 0 := by
 refine ⟨k.len, by omega, fun _ _ => Nat.zero_le _, fun p p0 p1 => ?_, k.zero⟩
 rcases Int.lt_or_le p i with c | c
 ·exact k.val p p0 c
 ·rw [show p = i by omega, hr, rd_lcpV (by omega) (by rw [h.alen]; omega), if_pos rfl]
  exact k.zero (by omega)
theorem KasI.put (k : KasI s a R V i n) (h : OrdR s a R) (i0 : 0 ≤ i) (hi : i < s.length) (hr : rd R i ≠ 0) {m : Int} (hm : m = com s i (rd a (rd R i - 1))) : KasI s a R (upd V (rd R i) m) (i + 1) (max (m - 1) 0) := by
 obtain ⟨ra, rb⟩ := h.at_ i0 hi
 have hl := k.len
 refine ⟨by rw [upd_length]; exact hl, by omega, fun h1 h2 => ?_, fun p p0 p1 => ?_, fun hs => ?_⟩
 ·have := kasai_step h i0 h1 (by omega) h2
  omega
 ·obtain ⟨pa, pb⟩ := h.at_ p0 (show p < s.length by omega)
  rcases Int.lt_or_le p i with c | c
  ·rw [rd_upd_other ra.1 pa.1 fun e => by rw [← e, rb] at pb; omega]
   exact k.val p p0 c
  ·rw [show p = i by omega, rd_upd_same ra.1 (by omega), rd_lcpV ra.1 (by rw [h.alen]; exact ra.2), if_neg hr, rb, hm]
 ·rw [rd_upd_other ra.1 (by omega) hr]
  exact k.zero hs
theorem KasI.done (k : KasI s a R V s.length n) (h : OrdR s a R) : V = lcpV s a := by
 refine list_ext_rd (by rw [k.len, lcpV_len, h.alen]) fun j j0 j1 => ?_
 rw [k.len] at j1
 have e := k.val (rd a j) (h.ain j0 j1).1 (h.ain j0 j1).2
 rwa [h.inv j j0 j1] at e
/-- The one ahead of each place, or -1. -/
def aheadV (s a R : List Int) : List Int := (List.range s.length).map fun i : Nat => if rd R i = 0 then -1 else rd a (rd R i - 1)
/-- How much each place has alike with the one ahead. -/
def plcpV (s a R : List Int) : List Int := (List.range s.length).map fun i : Nat => if rd R i = 0 then 0 else (com s i (rd a (rd R i - 1)) : Int)
theorem plcpV_len : (plcpV s a R).length = s.length := by simp [plcpV]
theorem rd_plcpV (h0 : 0 ≤ i) (h : i < s.length) : rd (plcpV s a R) i = if rd R i = 0 then 0 else (com s i (rd a (rd R i - 1)) : Int) := by
 unfold plcpV
 rw [rd_range h0 (by omega), show ((i.toNat : Nat) : Int) = i by omega]
theorem plcp_lcp (h : OrdR s a R) {r : Int} (r0 : 0 ≤ r) (hr : r < s.length) : rd (plcpV s a R) (rd a r) = rd (lcpV s a) r := by
 have := h.ain r0 hr
 rw [rd_plcpV this.1 this.2, h.inv r r0 hr, rd_lcpV r0 (by rw [h.alen]; exact hr)]
/-- In order: the first numbers, or the ranks of the places behind. -/
theorem OrdR.next (h : OrdR s a R) {r : Int} (r0 : 1 ≤ r) (hr : r < s.length) : rd s (rd a (r - 1)) < rd s (rd a r) ∨ rd s (rd a (r - 1)) = rd s (rd a r) ∧
  ((rd a (r - 1) + 1 = s.length ∧ rd a r + 1 < s.length) ∨ (rd a (r - 1) + 1 < s.length ∧ rd a r + 1 < s.length ∧ rd R (rd a (r - 1) + 1) < rd R (rd a r + 1))) := by
 have o := h.ord (p := r - 1) (q := r) (by omega) (by omega) hr
 have x := h.ain (r := r - 1) (by omega) (by omega)
 have y := h.ain (r := r) (by omega) hr
 generalize rd a (r - 1) = p at o x ⊢
 generalize rd a r = q at o y ⊢
 rw [ordE_O] at o
 have e0 : ∀ z : Int, 0 ≤ z → z < s.length → eu s z.toNat 0 = rd s z - lo s + 1 := fun z z0 z1 => by
  unfold eu
  rw [if_pos (by omega)]
  rfl
 obtain ⟨k, h1, h2⟩ := o
 cases k with
 | zero => rw [e0 p x.1 x.2, e0 q y.1 y.2] at h2; exact .inl (by omega)
 | succ k =>
  have e := h1 0 (by omega)
  rw [e0 p x.1 x.2, e0 q y.1 y.2] at e
  refine .inr ⟨by omega, ?_⟩
  have hq : q + 1 < s.length := by
   rcases Nat.lt_or_ge (q.toNat + (k + 1)) s.length with c | c
   ·omega
   ·rw [eu_zero c] at h2
    have := eu_nn s p.toNat (k + 1)
    omega
  rcases Int.lt_or_le (p + 1) s.length with c | c
  ·refine .inr ⟨c, hq, (h.rank ⟨by omega, c⟩ ⟨by omega, hq⟩).2 (ordE_O.2 ?_)⟩
   rw [show (p + 1).toNat = p.toNat + 1 by omega, show (q + 1).toNat = q.toNat + 1 by omega, ltO_eu (fun d hd => by rw [show d = 0 by omega]; exact h1 0 (by omega))]
   exact ⟨k + 1, h1, h2⟩
  ·exact .inl ⟨by omega, hq⟩
end
/-- Where each number stands: the row's inverse, so many places in. -/
structure InvI (a V : List Int) (B : List Bool) (q : Int) : Prop where
 len : V.length = a.length
 blen : B.length = a.length
 val : ∀ p : Int, 0 ≤ p → p < q → rd V (rd a p) = p
 seen : ∀ x : Int, 0 ≤ x → x < a.length → (rdb B x = true ↔ ∃ p : Int, 0 ≤ p ∧ p < q ∧ rd a p = x)
theorem invI_zero {a : List Int} : InvI a (List.replicate a.length 0) (List.replicate a.length false) 0 :=
 ⟨List.length_replicate, List.length_replicate, fun p h1 h2 => by omega, fun x _ _ => by rw [rdb_rep]; exact ⟨fun h => (by cases h), fun ⟨p, h1, h2, _⟩ => by omega⟩⟩
theorem InvI.fresh {a V : List Int} {B : List Bool} {q : Int} (h : InvI a V B q) (hp : a.Perm (iota a.length)) (q0 : 0 ≤ q) (hq : q < a.length) : (0 ≤ rd a q ∧ rd a q < a.length) ∧ ¬ rdb B (rd a q) = true := by
 have hin := mem_iota.1 (hp.subset (rd_mem q0 hq))
 refine ⟨hin, fun hs => ?_⟩
 obtain ⟨p, p0, p1, e⟩ := (h.seen _ hin.1 hin.2).1 hs
 have := rd_inj (hp.symm.nodup (iota_nodup _)) p0 (by omega) q0 hq e
 omega
theorem InvI.step {a V : List Int} {B : List Bool} {q : Int} (h : InvI a V B q) (hp : a.Perm (iota a.length)) (q0 : 0 ≤ q) (hq : q < a.length) : InvI a (upd V (rd a q) q) (updB B (rd a q) true) (q + 1) := by
 obtain ⟨⟨x0, x1⟩, _⟩ := h.fresh hp q0 hq
 have hl := h.len
 have hb := h.blen
 have hnd := hp.symm.nodup (iota_nodup a.length)
 refine ⟨by rw [upd_length]; exact hl, by rw [updB_len]; exact hb, fun p p0 p1 => ?_, fun x h0 h1 => ?_⟩
 ·rcases Int.lt_or_le p q with c | c
  ·have hin := mem_iota.1 (hp.subset (rd_mem (L := a) p0 (by omega)))
   rw [rd_upd_other x0 hin.1 fun e => by have := rd_inj hnd q0 hq p0 (by omega) e; omega]
   exact h.val p p0 c
  ·rw [show p = q by omega, rd_upd_same x0 (by omega)]
 ·rw [rdb_upd x0 (by omega) h0]
  by_cases c : x = rd a q
  ·rw [if_pos c]
   exact ⟨fun _ => ⟨q, q0, by omega, c.symm⟩, fun _ => rfl⟩
  ·rw [if_neg c, h.seen x h0 h1]
   exact ⟨fun ⟨p, p0, p1, e⟩ => ⟨p, p0, by omega, e⟩, fun ⟨p, p0, p1, e⟩ => ⟨p, p0, (Int.lt_or_le p q).elim id fun d => absurd (by rw [← e, show p = q by omega]) c, e⟩⟩
theorem InvI.done {s a V : List Int} {B : List Bool} (h : InvI a V B a.length) (hp : a.Perm (iota s.length)) (hs : a.Pairwise (ordE s)) : OrdR s a V := by
 have hl : a.length = s.length := by rw [hp.length_eq, iota_len]
 exact ⟨hp, hs, by rw [h.len, hl], fun r r0 hr => h.val r r0 (by omega)⟩
/-- A row's inverse. -/
def InvF (a V : List Int) : Prop := V.length = a.length ∧ ∀ r : Int, 0 ≤ r → r < a.length → rd V (rd a r) = r
theorem InvI.all {a V : List Int} {B : List Bool} (h : InvI a V B a.length) : InvF a V := ⟨h.len, h.val⟩
theorem InvF.ord {s a V : List Int} (h : InvF a V) (hp : a.Perm (iota s.length)) (hs : a.Pairwise (ordE s)) : OrdR s a V := by
 have hl : a.length = s.length := by rw [hp.length_eq, iota_len]
 exact ⟨hp, hs, by rw [h.1, hl], fun r r0 hr => h.2 r r0 (by omega)⟩
theorem perm_self {s a : List Int} (hp : a.Perm (iota s.length)) : a.Perm (iota a.length) := by
 have hl : a.length = s.length := by rw [hp.length_eq, iota_len]
 rwa [hl]
/-- The rank of the place behind; -1 behind the end. -/
def bhF (R : List Int) (i : Int) : Int := if i + 1 = R.length then -1 else rd R (i + 1)
theorem bhF_app {R : List Int} {i : Int} (h0 : 0 ≤ i) (h : i < R.length) : rd (R ++ [-1]) (i + 1) = bhF R i := by
 unfold bhF
 by_cases c : i + 1 = R.length
 ·rw [if_pos c, rd_append_r (by omega), c, Int.sub_self]
  rfl
 ·rw [if_neg c, rd_append_l (by omega) (by omega)]
section
variable {s a R : List Int}
theorem OrdR.bh (h : OrdR s a R) {i : Int} (h0 : 0 ≤ i) (hi : i < s.length) : -1 ≤ bhF R i ∧ bhF R i ≤ s.length := by
 unfold bhF
 have hl := h.len
 split
 ·omega
 ·have := (h.at_ (i := i + 1) (by omega) (by omega)).1
  omega
theorem OrdR.nofall (h : OrdR s a R) {r : Int} (r0 : 1 ≤ r) (hr : r < s.length) : ¬ (rd s (rd a r) < rd s (rd a (r - 1)) ∨ rd s (rd a (r - 1)) = rd s (rd a r) ∧ bhF R (rd a r) < bhF R (rd a (r - 1))) := by
 have n := h.next r0 hr
 have hl := h.len
 have x := h.ain (r := r - 1) (by omega) (by omega)
 have y := h.ain (r := r) (by omega) hr
 generalize rd a (r - 1) = p at *
 generalize rd a r = q at *
 have yb := h.bh y.1 y.2
 unfold bhF at *
 rintro (g | ⟨g, g2⟩)
 ·omega
 ·rcases n with n | ⟨_, ⟨n1, n2⟩ | ⟨n1, n2, n3⟩⟩
  ·omega
  ·rw [if_pos (show p + 1 = R.length by omega)] at g2
   omega
  ·rw [if_neg (show ¬ p + 1 = R.length by omega), if_neg (show ¬ q + 1 = R.length by omega)] at g2
   omega
/-- The one ahead of each, so many places in. -/
structure AhI (a V : List Int) (q l : Int) : Prop where
 len : V.length = a.length
 last : l = if q = 0 then -1 else rd a (q - 1)
 val : ∀ p : Int, 0 ≤ p → p < q → rd V (rd a p) = if p = 0 then -1 else rd a (p - 1)
def AhF (a V : List Int) : Prop := V.length = a.length ∧ ∀ p : Int, 0 ≤ p → p < a.length → rd V (rd a p) = if p = 0 then -1 else rd a (p - 1)
theorem ahI_zero : AhI a (List.replicate a.length 0) 0 (-1) := ⟨List.length_replicate, by rw [if_pos rfl], fun p h1 h2 => by omega⟩
variable {V : List Int} {q l : Int}
theorem AhI.step (h : AhI a V q l) (hp : a.Perm (iota a.length)) (q0 : 0 ≤ q) (hq : q < a.length) : AhI a (upd V (rd a q) l) (q + 1) (rd a q) := by
 have hin := mem_iota.1 (hp.subset (rd_mem q0 hq))
 have hnd := hp.symm.nodup (iota_nodup a.length)
 have hl := h.len
 refine ⟨by rw [upd_length]; exact hl, by rw [if_neg (by omega), show q + 1 - 1 = q by omega], fun p p0 p1 => ?_⟩
 rcases Int.lt_or_le p q with c | c
 ·have ip := mem_iota.1 (hp.subset (rd_mem (L := a) p0 (by omega)))
  rw [rd_upd_other hin.1 ip.1 fun e => by have := rd_inj hnd q0 hq p0 (by omega) e; omega]
  exact h.val p p0 c
 ·rw [show p = q by omega, rd_upd_same hin.1 (by omega)]
  exact h.last
theorem AhI.done (h : AhI a V a.length l) : AhF a V := ⟨h.len, h.val⟩
theorem AhF.at_ (h : AhF a V) (o : OrdR s a R) {i : Int} (h0 : 0 ≤ i) (hi : i < s.length) : rd V i = if rd R i = 0 then -1 else rd a (rd R i - 1) := by
 obtain ⟨x, y⟩ := o.at_ h0 hi
 have := h.2 (rd R i) x.1 (by rw [o.alen]; exact x.2)
 rwa [y] at this
/-- By places of the text, so many places in. -/
structure PlI (s a R V : List Int) (i n : Int) : Prop where
 len : V.length = s.length
 n0 : 0 ≤ n
 nl : i < s.length → 0 < rd R i → (n - 1).toNat ≤ com s i (rd a (rd R i - 1))
 val : ∀ p : Int, 0 ≤ p → p < i → rd V p = rd (plcpV s a R) p
theorem plI_zero : PlI s a R (List.replicate s.length 0) 0 0 := ⟨List.length_replicate, by omega, fun _ _ => Nat.zero_le _, fun p h1 h2 => by omega⟩
variable {i n : Int}
theorem PlI.put (k : PlI s a R V i n) (i0 : 0 ≤ i) (hi : i < s.length) {m : Int} (hm : m = rd (plcpV s a R) i) (h0 : 0 ≤ m) (hn : i + 1 < s.length → 0 < rd R (i + 1) → (m - 1).toNat ≤ com s (i + 1) (rd a (rd R (i + 1) - 1))) : PlI s a R (upd V i m) (i + 1) m := by
 have hl := k.len
 refine ⟨by rw [upd_length]; exact hl, h0, hn, fun p p0 p1 => ?_⟩
 rcases Int.lt_or_le p i with c | c
 ·rw [rd_upd_other i0 p0 (by omega)]
  exact k.val p p0 c
 ·rw [show p = i by omega, rd_upd_same i0 (by omega)]
  exact hm
theorem PlI.zero (k : PlI s a R V i n) (i0 : 0 ≤ i) (hi : i < s.length) (hr : rd R i = 0) : PlI s a R (upd V i 0) (i + 1) 0 :=
 k.put i0 hi (by rw [rd_plcpV i0 hi, if_pos hr]) (by omega) fun _ _ => Nat.zero_le _
theorem PlI.more (k : PlI s a R V i n) (h : OrdR s a R) (i0 : 0 ≤ i) (hi : i < s.length) (hr : rd R i ≠ 0) {j : Int} (hj : j = rd a (rd R i - 1)) :
  ((max (n - 1) 0).toNat ≤ com s i j) ∧ PlI s a R (upd V i (max (n - 1) 0 + (com s (i + max (n - 1) 0) (j + max (n - 1) 0) : Int))) (i + 1) (max (n - 1) 0 + (com s (i + max (n - 1) 0) (j + max (n - 1) 0) : Int)) := by
 obtain ⟨x, y⟩ := h.at_ i0 hi
 have jin := h.ain (r := rd R i - 1) (by omega) (by omega)
 have hl := k.nl hi (by omega)
 rw [← hj] at jin hl
 have hm : (max (n - 1) 0).toNat ≤ com s i j := by omega
 have hs := com_sub i0 jin.1 hm
 rw [show (((max (n - 1) 0).toNat : Nat) : Int) = max (n - 1) 0 by omega] at hs
 have e : max (n - 1) 0 + (com s (i + max (n - 1) 0) (j + max (n - 1) 0) : Int) = com s i j := by rw [hs]; omega
 refine ⟨hm, ?_⟩
 rw [e]
 refine k.put i0 hi (by rw [rd_plcpV i0 hi, if_neg hr, hj]) (by omega) fun h1 h2 => ?_
 have := kasai_step h i0 h1 (by omega) h2
 rw [← hj] at this
 omega
theorem PlI.done (k : PlI s a R V s.length n) : V = plcpV s a R :=
 list_ext_rd (by rw [k.len, plcpV_len]) fun j j0 j1 => k.val j j0 (by have := k.len; omega)
theorem lcp_of (h : OrdR s a R) {U : List Int} (hl : U.length = a.length) (hU : ∀ p : Int, 0 ≤ p → p < a.length → rd U p = rd (plcpV s a R) (rd a p)) : U = lcpV s a :=
 list_ext_rd (by rw [hl, lcpV_len]) fun j j0 j1 => by
  have e := h.alen
  rw [hU j j0 (by omega), plcp_lcp h j0 (by omega)]
end
end Go.Pure

/-! ## E14 -/
namespace Go.Eng
open Go Go.RowKit
section
variable {P : Program} {n : Nd} {B : Nat} {w0 : World} {L : Env} {R : List Row} {ty : TypeId}
end
end Go.Eng

/-! ## E15 -/
namespace Go.Eng
open Go Go.RowKit Go.Proofs
theorem SlW.elim {C : Prop} {k : IntKind} {w : World} {vals : List Value} {ls : List (List Int)} (h : SlW k w vals ls) {i : Int} (h0 : 0 ≤ i) (h1 : i < ls.length) (q : ∀ (A : Option Addr) (c : Nat), vals[i.toNat]? = some (Value.slice A (rdl ls i).length c) → Rd w A (rdl ls i).length c 1 (ints k (rdl ls i)) → (∀ x ∈ rdl ls i, (Lit.int k x).wf = true) → (rdl ls i).length ≤ 140737488355327 → C) : C := by
 obtain ⟨A, c, a, b, d, e⟩ := h.at h0 h1
 exact q A c a b d e
section
variable {P : Program} {n : Nd} {B : Nat} {w0 : World} {L : Env} {R : List Row} {ty : TypeId}
end
section
variable {P : Program} {n : Nd} {B : Nat} {w0 : World} {ops : Array Oper} {K : Env → List Row → Prop} {L : Env} {R : List Row} {op : Op} {ty : TypeId} {pos : String} {aft : Array Edge}
/-- One of those that may come up now, at its turn. -/
def Turn1 (P : Program) (n : Nd) (B : Nat) (w0 : World) (ops : Array Oper) (K : Env → List Row → Prop) (fuel : Nat) (listed : Array Bool) (L : Env) (R : List Row) (i : Nat) : Prop :=
 ∀ a w (Q : Exit → Act → World → Prop), Sat n L a → Hp B w0 w R → (∀ c a w, ¬ Q (.panic c) a w) → (∀ a' w' L' R', Sat n L' a' → Hp B w0 w' R' → K L' R' → Q .normal a' w') →
  wpOp P ops Q i (fun a' w' => ∃ S' : World → Prop, S' w' ∧ (barB ops listed i = true ∨ ∀ x, S' x → Hp B w0 x R) ∧ wpAnyB P ops Q fuel S' (listed.setIfInBounds i true) a' w') a w
theorem wd_two {fuel : Nat} {listed : Array Bool} (i j : Nat) (hr : Region.ready .any ops listed = [i, j]) (hi : Turn1 P n B w0 ops K fuel listed L R i) (hj : Turn1 P n B w0 ops K fuel listed L R j) : WD P n B w0 ops K (fuel + 1) listed L R := by
 intro a w Q hs hp hpan hq
 refine ⟨fun h0 => absurd (hr ▸ h0) (by simp), fun k hk => ?_⟩
 rw [hr] at hk
 rcases List.mem_cons.1 hk with rfl | hk
 ·exact hi a w Q hs hp hpan hq
 ·obtain rfl := List.mem_singleton.1 hk
  exact hj a w Q hs hp hpan hq
theorem t1_act {i : Nat} {o : Oper} {Post : Value → List Row → Prop} {fuel : Nat} {listed : Array Bool} (hi : ops[i]? = some o) (hg : ∀ a, Sat n L a → Region.wanted o (yielded ops a.tmps) = true) (ha : Ac P n B w0 o.op o.type L R Post)
  (hn : ∀ v a, Sat n L a → Sat n (match o.dst with | some d => (d, v) :: L | none => L) (a.put o.dst v))
  (h : ∀ v R', Post v R' → (barB ops listed i = true ∨ ∀ w, Hp B w0 w R' → Hp B w0 w R) ∧ WD P n B w0 ops K fuel (listed.setIfInBounds i true) (match o.dst with | some d => (d, v) :: L | none => L) R') : Turn1 P n B w0 ops K fuel listed L R i := by
 intro a w Q hs hp hpan hq
 unfold wpOp
 simp only [hi, hg a hs, if_true]
 refine .inl (ha a w o _ Q rfl rfl hs hp fun v w' R' hp' hv => ?_)
 obtain ⟨h1, h2⟩ := h v R' hv
 exact ⟨fun w => Hp B w0 w R', hp', h1, h2 _ w' Q (hn v a hs) hp' hpan hq⟩
theorem t1_a {d : Nat} {Post : Value → List Row → Prop} {fuel : Nat} {listed : Array Bool} (i : Nat) (hi : ops[i]? = some { dst := some d, op := op, type := ty, pos := pos, after := aft, guard := none }) (hn : Nat.blt d n = true) (ha : Ac P n B w0 op ty L R Post)
  (h : ∀ v R', Post v R' → (barB ops listed i = true ∨ ∀ w, Hp B w0 w R' → Hp B w0 w R) ∧ WD P n B w0 ops K fuel (listed.setIfInBounds i true) ((d, v) :: L) R') : Turn1 P n B w0 ops K fuel listed L R i :=
 t1_act hi (fun _ _ => rfl) ha (fun v _ hs => hs.put hn v) h
end
end Go.Eng

/-! ## E16 -/
namespace Go.Eng
open Go Go.RowKit
theorem Rd.cutI {w : World} {A : Option Addr} {m c l h : Nat} {k : IntKind} {xs : List Int} (hr : Rd w A m c 1 (ints k xs)) (h1 : l ≤ h) (h2 : h ≤ m) : Rd w (cutA A l c 1) (h - l) (c - l) 1 (ints k ((xs.drop l).take (h - l))) :=
 RdC.cutI (hr.c []) h1 h2 w (Hp.refl _)
theorem Rd.fromI {w : World} {A : Option Addr} {m c l : Nat} {k : IntKind} {xs : List Int} (hr : Rd w A m c 1 (ints k xs)) (h1 : l ≤ m) : Rd w (cutA A l c 1) (m - l) (c - l) 1 (ints k (xs.drop l)) :=
 RdC.fromI (hr.c []) h1 w (Hp.refl _)
theorem Rd.toI {w : World} {A : Option Addr} {m c h : Nat} {k : IntKind} {xs : List Int} (hr : Rd w A m c 1 (ints k xs)) (h2 : h ≤ m) : Rd w A h c 1 (ints k (xs.take h)) :=
 RdC.toI (hr.c []) h2 w (Hp.refl _)
theorem wf_byte {x : Int} (h : 0 ≤ x ∧ x < 256) : (Lit.int .u8 x).wf = true := by
 have h1 : IntKind.u8.min ≤ x := h.1
 have h2 : x ≤ IntKind.u8.max := by
  have : IntKind.u8.max = 255 := by decide
  omega
 simp [Lit.wf, h1, h2]
theorem SlW.snoc {k : IntKind} {w : World} {vals : List Value} {ls : List (List Int)} {A : Option Addr} {m c : Nat} {l : List Int} (h : SlW k w vals ls) (hr : Rd w A m c 1 (ints k l)) (hwf : ∀ x ∈ l, (Lit.int k x).wf = true) (hm : l.length ≤ 140737488355327) : SlW k w (vals ++ [.slice A m c]) (ls ++ [l]) := by
 obtain rfl := hr.lenI
 refine ⟨by rw [List.length_append, List.length_append, h.1]; rfl, fun j hj => ?_⟩
 rcases Nat.lt_or_ge j ls.length with a | a
 ·obtain ⟨A', c', h1, h2, h3, h4⟩ := h.2 j a
  have e : (ls ++ [l]).getD j [] = ls.getD j [] := by
   rw [List.getD_eq_getElem?_getD, List.getD_eq_getElem?_getD, List.getElem?_append_left a]
  rw [e]
  exact ⟨A', c', by rw [List.getElem?_append_left (by rw [h.1]; exact a)]; exact h1, h2, h3, h4⟩
 ·have hj' : j = ls.length := by rw [List.length_append] at hj; simp at hj; omega
  have e : (ls ++ [l]).getD j [] = l := by
   rw [List.getD_eq_getElem?_getD, hj', List.getElem?_append_right (Nat.le_refl _)]
   simp
  rw [e]
  refine ⟨A, c, ?_, hr, hwf, hm⟩
  rw [hj', ← h.1, List.getElem?_append_right (Nat.le_refl _)]
  simp
end Go.Eng

/-! ## E17 -/
namespace Go.Eng
open Go Go.RowKit
section
variable {P : Program} {n : Nd} {B : Nat} {w0 : World} {L : Env} {R : List Row} {ty : TypeId}
end
end Go.Eng

/-! ## E32 -/
namespace Go.Eng
open Go Go.RowKit
section
variable {P : Program} {n : Nd} {B : Nat} {w0 : World} {L : Env} {R : List Row} {ty : TypeId}
/-- So many rounds at most. -/
def WRd (P : Program) (n : Nd) (B : Nat) (w0 : World) (c : Code) (Q : PostC) : Nat → Env → List Row → Prop
 | 0, _, _ => False
 | m + 1, L, R => W P n B w0 c { Q with nrm := WRd P n B w0 c Q m } L R
theorem w_rounds {c : Code} {Q : PostC} (m : Nat) (h : WRd P n B w0 c Q m L R) : W P n B w0 (.loop c) Q L R := by
 intro a w hs hp
 refine wpIn_loop_rounds m ?_
 have key : ∀ (m : Nat) (L : Env) (R : List Row) (a : Act) (w : World), Sat n L a → Hp B w0 w R → WRd P n B w0 c Q m L R → Code.roundsIn (NF n.rd) 0 P c (PQ n B w0 Q) m a w := by
  intro m
  induction m with
  | zero => intro L R a w _ _ h; exact h.elim
  | succ m ih =>
   intro L R a w hs hp h
   rw [roundsIn_succ]
   refine wpIn_mono (h a w hs hp) ?_
   intro e a' w' hq
   cases e with
   | normal => obtain ⟨L', R', hs', hp', hw⟩ := hq; exact ih _ _ _ _ hs' hp' hw
   | exit id => exact hq
   | goto l => exact hq
   | ret => exact hq
   | panic ch => exact hq
   | outgrown => exact hq
 exact key m L R a w hs hp h
theorem w_round {c : Code} {Q : PostC} {m : Nat} (h : W P n B w0 c { Q with nrm := WRd P n B w0 c Q m } L R) : WRd P n B w0 c Q (m + 1) L R := h
/-- An element of an array by value. -/
theorem y_ix {t : TypeId} {x ix : Operand} {u i v : Value} (hx : ev L x = some u) (hi : ev L ix = some i) (h : ∀ w, (Instr.index t u i).run P w = .ok v w) : Yl P n B w0 (.index t x ix) ty L R v := by
 intro a w o ho _ hs _
 simp [execOp, ho, hs.ev hx, hs.ev hi, h]
/-- A function whose first result lies in a cell, the second one in a slot. -/
theorem fnCT {f : FuncId} {fn : Func} {c : Code} {args : List Value} {R : List Row} {Post : Value → List Row → Prop} {p r2 : Nat} {ty : TypeId} {d : TypeDesc} {sz : Nat} (hf : P.funcs[f]? = some fn) (hb : fn.body = some c) (hr : fn.results = #[.cell p ty, .tmp r2]) (hl : Nat.ble args.length fn.ntmps = true)
  (hu : P.underlying ty = some d) (hd : (match d with | .struct _ | .array _ _ => true | _ => false) = true) (hi : (P.info? ty).map (·.size) = some sz)
  (h : W P fn.ntmps B w0 c ⟨fun L R' => ∃ (g i : Nat) (r : Row), lk L p = some (.pointer (some ⟨g, 0, none⟩)) ∧ R'[i]? = some r ∧ r.ro = false ∧ r.A = some ⟨g, 0, none⟩ ∧ r.n = 1 ∧ r.c = 1 ∧ r.sz = sz ∧ ∃ u, lk L r2 = some u ∧ ∃ R1, (∀ w, Hp B w0 w R' → Hp B w0 w R1) ∧ Post (.tuple #[.agg r.xs.toArray, u]) R1,
   fun L R' => ∃ (g i : Nat) (r : Row), lk L p = some (.pointer (some ⟨g, 0, none⟩)) ∧ R'[i]? = some r ∧ r.ro = false ∧ r.A = some ⟨g, 0, none⟩ ∧ r.n = 1 ∧ r.c = 1 ∧ r.sz = sz ∧ ∃ u, lk L r2 = some u ∧ ∃ R1, (∀ w, Hp B w0 w R' → Hp B w0 w R1) ∧ Post (.tuple #[.agg r.xs.toArray, u]) R1, fun _ _ _ => False⟩ (ini 0 args) R) : Ct P f args.toArray B w0 R Post := by
 intro w hw
 have hl' : args.length ≤ fn.ntmps := Nat.le_of_ble_eq_true hl
 have fin : ∀ (L' : Env) (R' : List Row) (a' : Act) (w' : World), Sat fn.ntmps L' a' → Hp B w0 w' R' → (∃ (g i : Nat) (r : Row), lk L' p = some (.pointer (some ⟨g, 0, none⟩)) ∧ R'[i]? = some r ∧ r.ro = false ∧ r.A = some ⟨g, 0, none⟩ ∧ r.n = 1 ∧ r.c = 1 ∧ r.sz = sz ∧ ∃ u, lk L' r2 = some u ∧ ∃ R1, (∀ w, Hp B w0 w R' → Hp B w0 w R1) ∧ Post (.tuple #[.agg r.xs.toArray, u]) R1) →
   ∃ v R1, (results fn a'.tmps).run P w' = .ok v w' ∧ Hp B w0 w' R1 ∧ Post v R1 := by
  rintro L' R' a' w' hs' hp' ⟨g, i, r, h1, h2, h3, h4, h5, h6, h7, u, hu2, R1, h8, h9⟩
  have hown := Row.lies_w (hp'.own r (List.mem_of_getElem? h2)) h3
  rcases hown.2 with ⟨hn, _⟩ | ⟨g', cap, cur, hv, _, hg, _, _, hcs, ht⟩
  ·rw [h4] at hn; cases hn
  ·rw [h4] at hv
   simp only [Value.slice.injEq, Option.some.injEq, Addr.mk.injEq, and_true, true_and] at hv
   obtain ⟨rfl, rfl⟩ := hv
   rw [h5, h7, Nat.one_mul] at ht
   rw [h6, h7, Nat.one_mul] at hcs
   have e : cur = r.xs.toArray := by
    rw [← ht, List.take_of_length_le (by rw [Array.length_toList]; omega)]
   have hp2 : a'.tmps[p]?.getD undef = .pointer (some ⟨g, 0, none⟩) := by have := hs'.getD h1; simpa using this
   have hu3 := hs'.val r2 u hu2
   have hrun : (results fn a'.tmps).run P w' = .ok (.tuple #[.agg cur, u]) w' := by
    simp [results, hr, hp2, hu3, asAddr, run_loadVar_row w' g r.e ty cur (0, 0) d hg hu hd (by rw [hi, hcs])]
   refine ⟨_, R1, hrun, h8 _ hp', ?_⟩
   rw [e]
   exact h9
 refine calls_of_wp hf hb (wp_mono (wpIn_wide.1 (h _ w ⟨by simp; omega, rfl, fun t v ht => ?_⟩ hw)) ?_)
 ·obtain ⟨_, h2⟩ := lk_ini args 0 t v ht
  simp only [Nat.sub_zero] at h2
  have hlt := (List.getElem?_eq_some_iff.1 h2).1
  rw [← h2]
  simp [Array.getElem?_append, hlt]
 ·intro e a' w' hq
  cases e with
  | normal =>
   obtain ⟨L', R', hs', hp', hx⟩ := hq
   obtain ⟨v, R1, hrun, hh, hpost⟩ := fin L' R' _ _ hs' hp' hx
   exact ⟨hs'.defers, v, hrun, v, R1, rfl, hh, hpost⟩
  | ret =>
   obtain ⟨L', R', hs', hp', hx⟩ := hq
   obtain ⟨v, R1, hrun, hh, hpost⟩ := fin L' R' _ _ hs' hp' hx
   exact ⟨hs'.defers, v, hrun, v, R1, rfl, hh, hpost⟩
  | exit id => obtain ⟨_, _, _, _, h⟩ := hq; exact h.elim
  | goto l => exact hq
  | panic ch => exact hq.elim
  | outgrown => exact hq.elim
end
end Go.Eng

/-! ## V2 -/
namespace Go.Proofs.YtdfcnalkdlifiaaGreat
open Go Go.Eng Go.RowKit Go.Shelf Go.Proofs
attribute [local go_sem] Oper.semAt_some
theorem back_cell {W : World} {a : Addr} {n c : Nat} {xs : List Value} (h : Rd W (some a) n c 1 xs) {j : Nat} (hj : j < xs.length) : W.cell? (a.add j) = some (xs[j]'hj) := by
 obtain ⟨b, h1, h2⟩ := h.at_ j _ (List.getElem?_eq_getElem hj)
 obtain rfl := Option.some.inj h1
 exact h2
theorem _root_.Go.Eng.Iter.congr {P : Program} {gf : Nat} {lb : Array Value} {Rdy : World → Prop} {N : Nat} {f f' : Nat → List Value} (it : Iter P gf lb Rdy N f) (h : ∀ k, k < N → f k = f' k) : Iter P gf lb Rdy N f' :=
 fun l J W hR hY h0 => it l J W hR (fun k W hk hJ => by rw [h k hk]; exact hY k W hk hJ) h0
theorem ints_getD {k : IntKind} {zs : List Int} {j : Nat} (h : j < zs.length) : (ints k zs)[j]?.getD undef = .int k (rd zs (j : Int)) := by
 have := Go.Eng.ints_at (k := k) (l := zs) (i := (j : Int)) (by omega) (by omega)
 rw [Int.toNat_natCast] at this
 rw [this, Option.getD_some]

set_option maxRecDepth 100000 in
set_option maxHeartbeats 2000000 in
theorem back0_it {g : Nat} {A : Option Addr} {c : Nat} {xs : List Value} (hmax : xs.length ≤ 1000000) : Iter Tryz.prog 68 #[.pointer (some ⟨g, 0, none⟩)] (fun w => Rd w (some ⟨g, 0, none⟩) 1 1 1 [.slice A xs.length c] ∧ Rd w A xs.length c 1 xs) xs.length
  (fun k => [.int .i64 (((xs.length - 1 - k : Nat) : Int)), xs[xs.length - 1 - k]?.getD undef]) := by
 intro l J W hR hY h0
 rcases Nat.eq_zero_or_pos xs.length with hz | hpos
 ·have hc : W.cell? ⟨g, 0, none⟩ = some (.slice A xs.length c) := back_cell (hR _ _ h0).1 (j := 0) (by simp)
  rw [hz] at hc
  refine callsIn_of_wp Tryz.func68 rfl trivial ?_ rfl
  simp only [Tryz.ntmps68, List.size_toArray, List.length_cons, List.length_nil, Nat.reduceAdd, Nat.reduceSub, Array.replicate_succ, Array.replicate_zero, List.push_toArray, List.append_toArray, List.nil_append, List.cons_append]
  gi_wp2
  gi_loopw [3] (fun i wr => i = .int .i64 (-1) ∧ J 0 wr) (fun _ _ => 0)
  case atStart => exact ⟨rfl, h0⟩
  case round =>
   obtain ⟨rfl, hJs⟩ := hrel
   gi_wp2
   go_end0
   exact ⟨⟨_, rfl⟩, by rw [hz]; exact hJs⟩
 ·obtain ⟨a, rfl⟩ : ∃ a, A = some a := by
   obtain ⟨a, h1, _⟩ := (hR _ _ h0).2.at_ 0 _ (List.getElem?_eq_getElem hpos)
   exact ⟨a, h1⟩
  have hc : W.cell? ⟨g, 0, none⟩ = some (.slice (some a) xs.length c) := back_cell (hR _ _ h0).1 (j := 0) (by simp)
  refine callsIn_of_wp Tryz.func68 rfl trivial ?_ rfl
  simp only [Tryz.ntmps68, List.size_toArray, List.length_cons, List.length_nil, Nat.reduceAdd, Nat.reduceSub, Array.replicate_succ, Array.replicate_zero, List.push_toArray, List.append_toArray, List.nil_append, List.cons_append]
  gi_wp2
  gi_loopw [3] (fun i wr => (∃ k j : Nat, k + j + 1 = xs.length ∧ i = .int .i64 (j : Int) ∧ J k wr) ∨ (i = .int .i64 (-1) ∧ J xs.length wr)) (fun i _ => (intOf i + 1).toNat)
  case atStart => exact .inl ⟨0, xs.length - 1, by omega, by rw [show ((xs.length : Int) - 1) = ((xs.length - 1 : Nat) : Int) by omega], h0⟩
  case round =>
   rcases hrel with ⟨k, j, hkj, rfl, hJs⟩ | ⟨rfl, hJs⟩
   ·obtain ⟨fn, tmps, assign, body, hy, hRd⟩ := hY k wr (by omega) hJs
    rw [show xs.length - 1 - k = j by omega] at hy
    have hjl : j < xs.length := by omega
    rw [List.getElem?_eq_getElem hjl] at hy
    simp only [Option.getD_some] at hy
    have hc1 : wr.cell? ⟨g, 0, none⟩ = some (.slice (some a) xs.length c) := back_cell (hR _ _ hJs).1 (j := 0) (by simp)
    have hc2 := back_cell (hR _ _ hJs).2 hjl
    gi_wp2
    refine ⟨rfl, hRd.mono ?_⟩
    rintro e W3 ⟨rfl, hJ3⟩
    gi_wp2
    go_roundw
    case rel =>
     rcases Nat.eq_zero_or_pos j with rfl | hj
     ·exact .inr ⟨by simp, by rw [← hkj]; exact hJ3⟩
     ·exact .inl ⟨k + 1, j - 1, by omega, by rw [show ((j : Int) - 1) = ((j - 1 : Nat) : Int) by omega], hJ3⟩
    case measure => simp [intOf]
   ·gi_wp2
    go_end0
    exact ⟨⟨_, rfl⟩, hJs⟩

theorem back0_ints {g : Nat} {A : Option Addr} {c : Nat} {zs : List Int} (hmax : zs.length ≤ 1000000) : Iter Tryz.prog 68 #[.pointer (some ⟨g, 0, none⟩)] (fun w => Rd w (some ⟨g, 0, none⟩) 1 1 1 [.slice A zs.length c] ∧ Rd w A zs.length c 1 (ints .i64 zs)) zs.length
  (fun k => [.int .i64 (((zs.length - 1 - k : Nat) : Int)), .int .i64 (rd zs ((zs.length - 1 - k : Nat) : Int))]) := by
 have h := back0_it (g := g) (A := A) (c := c) (xs := ints .i64 zs) (by rw [ints_length]; exact hmax)
 rw [ints_length] at h
 exact h.congr fun k hk => by rw [ints_getD (by omega)]

set_option maxRecDepth 100000 in
set_option maxHeartbeats 2000000 in
theorem vals0_it {g : Nat} {A : Option Addr} {c : Nat} {xs : List Value} : Iter Tryz.prog 175 #[.pointer (some ⟨g, 0, none⟩)] (fun w => Rd w (some ⟨g, 0, none⟩) 1 1 1 [.slice A xs.length c] ∧ Rd w A xs.length c 1 xs) xs.length
  (fun k => [xs[k]?.getD undef]) := by
 intro l J W hR hY h0
 have hmax := (hR _ _ h0).2.max
 rcases Nat.eq_zero_or_pos xs.length with hz | hpos
 ·have hc : W.cell? ⟨g, 0, none⟩ = some (.slice A xs.length c) := back_cell (hR _ _ h0).1 (j := 0) (by simp)
  rw [hz] at hc
  refine callsIn_of_wp Tryz.func175 rfl trivial ?_ rfl
  simp only [Tryz.ntmps175, List.size_toArray, List.length_cons, List.length_nil, Nat.reduceAdd, Nat.reduceSub, Array.replicate_succ, Array.replicate_zero, List.push_toArray, List.append_toArray, List.nil_append, List.cons_append]
  gi_wp2
  gi_loopw [7] (fun i wr => i = .int .i64 0 ∧ J 0 wr) (fun _ _ => 0)
  case atStart => exact ⟨rfl, h0⟩
  case round =>
   obtain ⟨rfl, hJs⟩ := hrel
   gi_wp2
   go_end0
   exact ⟨⟨_, rfl⟩, by rw [hz]; exact hJs⟩
 ·obtain ⟨a, rfl⟩ : ∃ a, A = some a := by
   obtain ⟨a, h1, _⟩ := (hR _ _ h0).2.at_ 0 _ (List.getElem?_eq_getElem hpos)
   exact ⟨a, h1⟩
  have hc : W.cell? ⟨g, 0, none⟩ = some (.slice (some a) xs.length c) := back_cell (hR _ _ h0).1 (j := 0) (by simp)
  refine callsIn_of_wp Tryz.func175 rfl trivial ?_ rfl
  simp only [Tryz.ntmps175, List.size_toArray, List.length_cons, List.length_nil, Nat.reduceAdd, Nat.reduceSub, Array.replicate_succ, Array.replicate_zero, List.push_toArray, List.append_toArray, List.nil_append, List.cons_append]
  gi_wp2
  gi_loopw [7] (fun i wr => ∃ k : Nat, k ≤ xs.length ∧ i = .int .i64 k ∧ J k wr) (fun i _ => xs.length - (intOf i).toNat)
  case atStart => exact ⟨0, Nat.zero_le _, rfl, h0⟩
  case round =>
   obtain ⟨k, hk, rfl, hJs⟩ := hrel
   by_cases hlt : k < xs.length
   ·obtain ⟨fn, tmps, assign, body, hy, hRd⟩ := hY k wr hlt hJs
    rw [List.getElem?_eq_getElem hlt] at hy
    simp only [Option.getD_some] at hy
    have hc1 : wr.cell? ⟨g, 0, none⟩ = some (.slice (some a) xs.length c) := back_cell (hR _ _ hJs).1 (j := 0) (by simp)
    have hc2 := back_cell (hR _ _ hJs).2 hlt
    gi_wp2
    refine ⟨rfl, hRd.mono ?_⟩
    rintro e W3 ⟨rfl, hJ3⟩
    gi_wp2
    go_roundw
    case rel => exact ⟨k + 1, by omega, by simp, hJ3⟩
    case measure => simp [intOf]; omega
   ·obtain rfl : k = xs.length := by omega
    gi_wp2
    go_end0
    exact ⟨⟨_, rfl⟩, hJs⟩

theorem vals0_ints {g : Nat} {A : Option Addr} {c : Nat} {zs : List Int} : Iter Tryz.prog 175 #[.pointer (some ⟨g, 0, none⟩)] (fun w => Rd w (some ⟨g, 0, none⟩) 1 1 1 [.slice A zs.length c] ∧ Rd w A zs.length c 1 (ints .i64 zs)) zs.length
  (fun k => [.int .i64 (rd zs (k : Int))]) := by
 have h := vals0_it (g := g) (A := A) (c := c) (xs := ints .i64 zs)
 rw [ints_length] at h
 exact h.congr fun k hk => by rw [ints_getD hk]
end Go.Proofs.YtdfcnalkdlifiaaGreat

/-! ## S2 -/
namespace Go.Proofs
open Go.Shelf
def Tryz.lays189_ren : Go.Shelf.Ren := ⟨fun | 189 => 174 | 125 => 70 | 257 => 180 | 128 => 104 | 129 => 105 | 294 => 181 | 295 => 182 | 296 => 183 | 297 => 184 | 298 => 185 | 299 => 186 | 216 => 177 | 300 => 187 | 301 => 188 | 328 => 189 | 329 => 133 | 330 => 134 | 331 => 190 | 332 => 191 | 215 => 88 | 343 => 192 | n => n, fun | 28 => 24 | 3 => 3 | 46 => 79 | 0 => 0 | 51 => 115 | 53 => 118 | 4 => 4 | 183 => 134 | 182 => 133 | 131 => 138 | 5 => 5 | 9 => 9 | 218 => 157 | 222 => 161 | 228 => 168 | 229 => 169 | n => n, fun | n => n⟩
theorem Tryz.lays189 : Go.Proofs.Lays.n189 Tryz.prog Tryz.lays189_ren := {
 mixed := by kernel_rfl
 f125 := Tryz.func70.trans (congrArg some (by kernel_rfl))
 f128 := Tryz.func104.trans (congrArg some (by kernel_rfl))
 f129 := Tryz.func105.trans (congrArg some (by kernel_rfl))
 f189 := Tryz.func174.trans (congrArg some (by kernel_rfl))
 f215 := Tryz.func88.trans (congrArg some (by kernel_rfl))
 f216 := Tryz.func177.trans (congrArg some (by kernel_rfl))
 f257 := Tryz.func180.trans (congrArg some (by kernel_rfl))
 f294 := Tryz.func181.trans (congrArg some (by kernel_rfl))
 f295 := Tryz.func182.trans (congrArg some (by kernel_rfl))
 f296 := Tryz.func183.trans (congrArg some (by kernel_rfl))
 f297 := Tryz.func184.trans (congrArg some (by kernel_rfl))
 f298 := Tryz.func185.trans (congrArg some (by kernel_rfl))
 f299 := Tryz.func186.trans (congrArg some (by kernel_rfl))
 f300 := Tryz.func187.trans (congrArg some (by kernel_rfl))
 f301 := Tryz.func188.trans (congrArg some (by kernel_rfl))
 f328 := Tryz.func189.trans (congrArg some (by kernel_rfl))
 f329 := Tryz.func133.trans (congrArg some (by kernel_rfl))
 f330 := Tryz.func134.trans (congrArg some (by kernel_rfl))
 f331 := Tryz.func190.trans (congrArg some (by kernel_rfl))
 f332 := Tryz.func191.trans (congrArg some (by kernel_rfl))
 f343 := Tryz.func192.trans (congrArg some (by kernel_rfl))
 t0 := Tryz.underlying0
 a0 := Tryz.isAgg0
 z0 := Tryz.sizeOf0
 v0 := Tryz.zeroValue0
 t3 := Tryz.underlying3
 a3 := Tryz.isAgg3
 z3 := Tryz.sizeOf3
 v3 := Tryz.zeroValue3
 t4 := Tryz.underlying4
 a4 := Tryz.isAgg4
 z4 := Tryz.sizeOf4
 v4 := Tryz.zeroValue4
 t5 := Tryz.underlying5
 a5 := Tryz.isAgg5
 z5 := Tryz.sizeOf5
 v5 := Tryz.zeroValue5
 t9 := Tryz.underlying9
 a9 := Tryz.isAgg9
 z9 := Tryz.sizeOf9
 v9 := Tryz.zeroValue9
 t28 := Tryz.underlying24
 a28 := Tryz.isAgg24
 z28 := Tryz.sizeOf24
 v28 := Tryz.zeroValue24
 t46 := Tryz.underlying79
 a46 := Tryz.isAgg79
 z46 := Tryz.sizeOf79
 v46 := Tryz.zeroValue79
 t51 := Tryz.underlying115
 a51 := Tryz.isAgg115
 z51 := Tryz.sizeOf115
 v51 := Tryz.zeroValue115
 t53 := Tryz.underlying118
 a53 := Tryz.isAgg118
 z53 := Tryz.sizeOf118
 v53 := Tryz.zeroValue118
 t131 := Tryz.underlying138
 a131 := Tryz.isAgg138
 z131 := Tryz.sizeOf138
 v131 := Tryz.zeroValue138
 t182 := Tryz.underlying133
 a182 := Tryz.isAgg133
 z182 := Tryz.sizeOf133
 v182 := Tryz.zeroValue133
 t183 := Tryz.underlying134
 a183 := Tryz.isAgg134
 z183 := Tryz.sizeOf134
 v183 := Tryz.zeroValue134
 t218 := Tryz.underlying157
 a218 := Tryz.isAgg157
 z218 := Tryz.sizeOf157
 v218 := Tryz.zeroValue157
 t222 := Tryz.underlying161
 a222 := Tryz.isAgg161
 z222 := Tryz.sizeOf161
 v222 := Tryz.zeroValue161
 t228 := Tryz.underlying168
 a228 := Tryz.isAgg168
 z228 := Tryz.sizeOf168
 v228 := Tryz.zeroValue168
 t229 := Tryz.underlying169
 a229 := Tryz.isAgg169
 z229 := Tryz.sizeOf169
 v229 := Tryz.zeroValue169 }
open Go.Sort Go.RowKit in
theorem Tryz.slices_Sort_int (blk off cap : Nat) (zs : List Int) (w : World) (hH : Holds (Value.int .i64) w blk off zs.toArray) (hblk : blk < w.heap.size) (hsz : zs.length < 4611686018427387904) :
  Calls Tryz.prog 174 #[.slice (some ⟨blk, off, none⟩) zs.length cap] w fun e w' =>
   e = .returned (.tuple #[]) ∧ ∃ n os, w' = grow (putRow (Value.int .i64) (Sort.ahead w n) blk off (zs.mergeSort fun x y => decide (x ≤ y)).toArray) os := Any.slices_Sort_int Tryz.lays189 blk off cap zs w hH hblk hsz
def Tryz.laysNm225_ren : Go.Shelf.Ren := ⟨fun | 25 => 171 | 31 => 177 | 32 => 178 | 37 => 88 | n => n, fun | 22 => 24 | 3 => 3 | 4 => 4 | 40 => 79 | 0 => 0 | n => n, fun | n => n⟩
theorem Tryz.laysNm225 : Go.Proofs.Lays2.n25 Tryz.prog Tryz.laysNm225_ren := {
 mixed := by kernel_rfl
 f25 := Tryz.func171.trans (congrArg some (by kernel_rfl))
 f31 := Tryz.func177.trans (congrArg some (by kernel_rfl))
 f32 := Tryz.func178.trans (congrArg some (by kernel_rfl))
 f37 := Tryz.func88.trans (congrArg some (by kernel_rfl))
 t0 := Tryz.underlying0
 a0 := Tryz.isAgg0
 z0 := Tryz.sizeOf0
 v0 := Tryz.zeroValue0
 t3 := Tryz.underlying3
 a3 := Tryz.isAgg3
 z3 := Tryz.sizeOf3
 v3 := Tryz.zeroValue3
 t4 := Tryz.underlying4
 a4 := Tryz.isAgg4
 z4 := Tryz.sizeOf4
 v4 := Tryz.zeroValue4
 t22 := Tryz.underlying24
 a22 := Tryz.isAgg24
 z22 := Tryz.sizeOf24
 v22 := Tryz.zeroValue24
 t40 := Tryz.underlying79
 a40 := Tryz.isAgg79
 z40 := Tryz.sizeOf79
 v40 := Tryz.zeroValue79 }
open Go.RowKit Go.Lib in
/-- slices.BinarySearch at []int: "BinarySearch searches for target in a sorted slice and returns the earliest position where target is found, or the position where target would appear in the sort order; it also returns a bool saying whether the target is really found in the slice. The slice must be sorted in increasing order.": OF A SORTED SLICE IT RETURNS how many elements are less than the target, and whether the target is among the elements; the world is asx it was but for the count of draws. 'zs': what the cells behind the slice's address hold; 'zs.take n': its elements. (Of a slice that is not sorted: no contract here.) (LAID: no walk: one application.) -/
theorem Tryz.slices_BinarySearch_int (b off n c : Nat) (zs : List Int) (x : Int) (w : World) (hz : n ≤ zs.length) (hbig : n < 4611686018427387904) (hc : ∀ j, j < zs.length → w.cell? ⟨b, off + j, none⟩ = some (.int .i64 (zs.getD j 0))) (hs : (zs.take n).Pairwise (· ≤ ·)) :
  Calls Tryz.prog 171 #[.slice (some ⟨b, off, none⟩) n c, .int .i64 x] w fun e w' => e = .returned (.tuple #[.int .i64 ((zs.take n).countP (· < x) : Nat), .bool ((zs.take n).contains x)]) ∧ ∃ q, w' = w.drewN q := Any.slices_BinarySearch_int Tryz.laysNm225 b off n c zs x w hz hbig hc hs
open Go.RowKit Go.Sort in
/-- .. and plain. (LAID: no walk: one application.) -/
theorem Tryz.slices_Sort_int_none (p : Option Addr) (cap : Nat) (w : World) :
  Calls Tryz.prog 174 #[.slice p 0 cap] w fun e w' => e = .returned (.tuple #[]) ∧ w' = w := Any.slices_Sort_int_none Tryz.lays189 p cap w
open Go.RowKit Go.Lib in
/-- slices.BinarySearch at []int of no element: position 0, not found; the world is asx it was. (LAID: no walk: one application.) -/
theorem Tryz.slices_BinarySearch_int_empty (a : Option Addr) (c : Nat) (x : Int) (w : World) :
  Calls Tryz.prog 171 #[.slice a 0 c, .int .i64 x] w fun e w' => e = .returned (.tuple #[.int .i64 0, .bool false]) ∧ w' = w := Any.slices_BinarySearch_int_empty Tryz.laysNm225 a c x w
end Go.Proofs

/-! ## E19 -/
namespace Go.Eng
open Go Go.RowKit Go.Proofs Go.Sort
section
variable {P : Program} {B : Nat} {w0 : World} {R : List Row}
/-- What the kit's contracts say. -/
def SortsI (P : Program) (f : Nat) : Prop := ∀ (blk off cap : Nat) (zs : List Int) (w : World) (_ : Holds (Value.int .i64) w blk off zs.toArray) (_ : blk < w.heap.size) (_ : zs.length < 4611686018427387904),
 Calls P f #[.slice (some ⟨blk, off, none⟩) zs.length cap] w fun e w' => e = .returned (.tuple #[]) ∧ ∃ n os, w' = grow (putRow (Value.int .i64) (Sort.ahead w n) blk off (zs.mergeSort fun x y => decide (x ≤ y)).toArray) os
def SortsNo (P : Program) (f : Nat) : Prop := ∀ (p : Option Addr) (cap : Nat) (w : World), Calls P f #[.slice p 0 cap] w fun e w' => e = .returned (.tuple #[]) ∧ w' = w
def FindsI (P : Program) (f : Nat) : Prop := ∀ (b off n c : Nat) (zs : List Int) (x : Int) (w : World) (_ : n ≤ zs.length) (_ : n < 4611686018427387904) (_ : ∀ j, j < zs.length → w.cell? ⟨b, off + j, none⟩ = some (.int .i64 (zs.getD j 0))) (_ : (zs.take n).Pairwise (· ≤ ·)),
 Calls P f #[.slice (some ⟨b, off, none⟩) n c, .int .i64 x] w fun e w' => e = .returned (.tuple #[.int .i64 ((zs.take n).countP (· < x) : Nat), .bool ((zs.take n).contains x)]) ∧ ∃ q, w' = w.drewN q
def FindsNo (P : Program) (f : Nat) : Prop := ∀ (a : Option Addr) (c : Nat) (x : Int) (w : World), Calls P f #[.slice a 0 c, .int .i64 x] w fun e w' => e = .returned (.tuple #[.int .i64 0, .bool false]) ∧ w' = w
def sortL (l : List Int) : List Int := l.mergeSort fun x y => decide (x ≤ y)
theorem sortL_perm (l : List Int) : (sortL l).Perm l := List.mergeSort_perm _ _
theorem sortL_sorted (l : List Int) : (sortL l).Pairwise (· ≤ ·) := by
 have := List.pairwise_mergeSort (le := fun x y : Int => decide (x ≤ y)) (fun a b c h1 h2 => by simp at *; omega) (fun a b => by simp; omega) l
 exact this.imp fun h => by simpa using h
theorem sort_ints {f : Nat} (hS : SortsI P f) (hS0 : SortsNo P f) {T m c : Nat} {A : Option Addr} {l : List Int} (i : Nat) (hi : R[i]? = some ⟨T, 1, A, m, c, ints .i64 l, false⟩) (hsz : l.length < 4611686018427387904) :
  Ct P f #[.slice A m c] B w0 R (fun v R' => v = .tuple #[] ∧ R' = R.set i ⟨T, 1, A, m, c, ints .i64 (sortL l), false⟩) := by
 intro w hw
 have hown := Row.lies_w (hw.own _ (List.mem_of_getElem? hi)) rfl
 have hrd := Row.rd (hw.own _ (List.mem_of_getElem? hi))
 obtain rfl : m = l.length := hrd.lenI
 rcases hown.2 with ⟨hv, hn⟩ | ⟨blk, cap, cur, hv, hb, hg, hnc, hcm, hcs, ht⟩
 ·simp only at hn
  have hl : l = [] := List.eq_nil_of_length_eq_zero hn
  subst hl
  refine (hS0 A c w).mono ?_
  rintro e w' ⟨rfl, rfl⟩
  refine ⟨_, _, rfl, ?_, rfl, rfl⟩
  have e : sortL [] = [] := by simp [sortL]
  rw [e]
  have : R.set i ⟨T, 1, A, ([] : List Int).length, c, ints .i64 [], false⟩ = R := by
   apply List.ext_getElem?
   intro k
   rw [List.getElem?_set]
   split
   ·rename_i h
    subst h
    split
    ·exact hi.symm
    ·rename_i h2
     rw [List.getElem?_eq_none (by omega)]
   ·rfl
  rw [this]
  exact hw
 ·simp only [Value.slice.injEq, true_and] at hv
  obtain ⟨rfl, rfl⟩ := hv
  simp only at ht hcs hg hnc
  have hlt : blk < w.heap.size := (Array.getElem?_eq_some_iff.1 hg).1
  have hH : Holds (Value.int .i64) w blk 0 l.toArray := by
   intro j hj
   have hj' : j < l.length := by simpa using hj
   have e : (ints .i64 l)[j]? = some (.int .i64 (l.toArray[j]!)) := by
    rw [getElem!_pos l.toArray j hj]
    simp [ints, hj']
   refine ⟨?_, ?_⟩
   ·rw [Nat.zero_add]
    exact hw.cellAt i hi rfl e
   ·exact hw.openAt i (0 + j) hi rfl rfl
  refine (hS blk 0 c l w hH hlt hsz).mono ?_
  rintro e w' ⟨rfl, n, os, rfl⟩
  refine ⟨_, _, rfl, ?_, rfl, rfl⟩
  have hown' := ownsRow_sorted_i (w := w) (base := B) (g := blk) (cap := c) (n := n) (e := T) (os := os) (cur := cur) (ss := l) (ts := sortL l) (sortL_perm l).length_eq hb hg hnc hcm hcs
  have hgb := grownBy_sorted_i (w := w) (g := blk) (n := n) (os := os) (sortL l).toArray
  refine hw.upd hi (row := some blk) hgb ?_ (fun k hk => ?_) ?_ (fun a' ha' => .inl ⟨a', ha', rfl⟩)
  ·show w.drawn ≤ w.drawn + n
   omega
  ·obtain rfl := Option.some.inj hk
   exact ⟨_, rfl, rfl⟩
  ·exact hown'
theorem find_ints {f : Nat} (hF : FindsI P f) (hF0 : FindsNo P f) {T m c : Nat} {A : Option Addr} {l : List Int} {x : Int} (i : Nat) (hi : R[i]? = some ⟨T, 1, A, m, c, ints .i64 l, false⟩) (hsz : l.length < 4611686018427387904) (hs : l.Pairwise (· ≤ ·)) :
  Ct P f #[.slice A m c, .int .i64 x] B w0 R (fun v R' => v = .tuple #[.int .i64 (l.countP (· < x) : Nat), .bool (l.contains x)] ∧ R' = R) := by
 intro w hw
 have hown := Row.lies_w (hw.own _ (List.mem_of_getElem? hi)) rfl
 have hrd := Row.rd (hw.own _ (List.mem_of_getElem? hi))
 obtain rfl : m = l.length := hrd.lenI
 rcases hown.2 with ⟨hv, hn⟩ | ⟨blk, cap, cur, hv, hb, hg, hnc, hcm, hcs, ht⟩
 ·simp only at hn
  have hl : l = [] := List.eq_nil_of_length_eq_zero hn
  subst hl
  refine (hF0 A c x w).mono ?_
  rintro e w' ⟨rfl, rfl⟩
  exact ⟨_, _, rfl, hw, rfl, rfl⟩
 ·simp only [Value.slice.injEq, true_and] at hv
  obtain ⟨rfl, rfl⟩ := hv
  have ht' : l.take l.length = l := List.take_length
  have := hF blk 0 l.length c l x w (Nat.le_refl _) hsz (fun j hj => by
   rw [Nat.zero_add]
   exact hw.cellAt i hi rfl (by simp [ints, List.getD_eq_getElem?_getD, hj])) (by rw [ht']; exact hs)
  rw [ht'] at this
  refine this.mono ?_
  rintro e w' ⟨rfl, q, rfl⟩
  exact ⟨_, _, rfl, hw.drawn _ (Nat.le_add_right _ _), rfl, rfl⟩
end
end Go.Eng

