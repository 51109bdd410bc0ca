/-
  Engine: slices.Sort and slices.BinarySearch over numbers, by the kit's contracts. Own work.
-/
import Derived.Test.YtlagmdccneompaaE17
import Derived.Lib.SlKeysI
namespace Go.Eng
open Go Go.RowKit Go.Proofs Go.Sort
section
variable {P : Program} {B : Nat} {w0 : World} {R : List Row}
/-- What the kit's contracts say. -/
def SortsI (P : Program) (f : Nat) : Prop := ∀ (blk off cap : Nat) (zs : List Int) (w : World) (_ : Holds (Value.int .i64) w blk off zs.toArray) (_ : blk < w.heap.size) (_ : zs.length < 4611686018427387904),
  Calls P f #[.slice (some ⟨blk, off, none⟩) zs.length cap] w fun e w' => e = .returned (.tuple #[]) ∧ ∃ n os, w' = grow (putRow (Value.int .i64) (Sort.ahead w n) blk off (zs.mergeSort fun x y => decide (x ≤ y)).toArray) os
def SortsNo (P : Program) (f : Nat) : Prop := ∀ (p : Option Addr) (cap : Nat) (w : World), Calls P f #[.slice p 0 cap] w fun e w' => e = .returned (.tuple #[]) ∧ w' = w
def FindsI (P : Program) (f : Nat) : Prop := ∀ (b off n c : Nat) (zs : List Int) (x : Int) (w : World) (_ : n ≤ zs.length) (_ : n < 4611686018427387904) (_ : ∀ j, j < zs.length → w.cell? ⟨b, off + j, none⟩ = some (.int .i64 (zs.getD j 0))) (_ : (zs.take n).Pairwise (· ≤ ·)),
  Calls P f #[.slice (some ⟨b, off, none⟩) n c, .int .i64 x] w fun e w' => e = .returned (.tuple #[.int .i64 ((zs.take n).countP (· < x) : Nat), .bool ((zs.take n).contains x)]) ∧ ∃ q, w' = w.drewN q
def FindsNo (P : Program) (f : Nat) : Prop := ∀ (a : Option Addr) (c : Nat) (x : Int) (w : World), Calls P f #[.slice a 0 c, .int .i64 x] w fun e w' => e = .returned (.tuple #[.int .i64 0, .bool false]) ∧ w' = w
def sortL (l : List Int) : List Int := l.mergeSort fun x y => decide (x ≤ y)
theorem sortL_perm (l : List Int) : (sortL l).Perm l := List.mergeSort_perm _ _
theorem sortL_sorted (l : List Int) : (sortL l).Pairwise (· ≤ ·) := by
  have := List.pairwise_mergeSort (le := fun x y : Int => decide (x ≤ y)) (fun a b c h1 h2 => by simp at *; omega) (fun a b => by simp; omega) l
  exact this.imp fun h => by simpa using h
theorem sort_ints {f : Nat} (hS : SortsI P f) (hS0 : SortsNo P f) {T m c : Nat} {A : Option Addr} {l : List Int} (i : Nat) (hi : R[i]? = some ⟨T, 1, A, m, c, ints .i64 l, false⟩) (hsz : l.length < 4611686018427387904) :
    Ct P f #[.slice A m c] B w0 R (fun v R' => v = .tuple #[] ∧ R' = R.set i ⟨T, 1, A, m, c, ints .i64 (sortL l), false⟩) := by
  intro w hw
  have hown := Row.lies_w (hw.own _ (List.mem_of_getElem? hi)) rfl
  have hrd := Row.rd (hw.own _ (List.mem_of_getElem? hi))
  obtain rfl : m = l.length := hrd.lenI
  rcases hown.2 with ⟨hv, hn⟩ | ⟨blk, cap, cur, hv, hb, hg, hnc, hcm, hcs, ht⟩
  · simp only at hn
    have hl : l = [] := List.eq_nil_of_length_eq_zero hn
    subst hl
    refine (hS0 A c w).mono ?_
    rintro e w' ⟨rfl, rfl⟩
    refine ⟨_, _, rfl, ?_, rfl, rfl⟩
    have e : sortL [] = [] := by simp [sortL]
    rw [e]
    have : R.set i ⟨T, 1, A, ([] : List Int).length, c, ints .i64 [], false⟩ = R := by
      apply List.ext_getElem?
      intro k
      rw [List.getElem?_set]
      split
      · rename_i h
        subst h
        split
        · exact hi.symm
        · rename_i h2
          rw [List.getElem?_eq_none (by omega)]
      · rfl
    rw [this]
    exact hw
  · simp only [Value.slice.injEq, true_and] at hv
    obtain ⟨rfl, rfl⟩ := hv
    simp only at ht hcs hg hnc
    have hlt : blk < w.heap.size := (Array.getElem?_eq_some_iff.1 hg).1
    have hH : Holds (Value.int .i64) w blk 0 l.toArray := by
      intro j hj
      have hj' : j < l.length := by simpa using hj
      have e : (ints .i64 l)[j]? = some (.int .i64 (l.toArray[j]!)) := by
        rw [getElem!_pos l.toArray j hj]
        simp [ints, hj']
      refine ⟨?_, ?_⟩
      · rw [Nat.zero_add]
        exact hw.cellAt i hi rfl e
      · exact hw.openAt i (0 + j) hi rfl rfl
    refine (hS blk 0 c l w hH hlt hsz).mono ?_
    rintro e w' ⟨rfl, n, os, rfl⟩
    refine ⟨_, _, rfl, ?_, rfl, rfl⟩
    have hown' := ownsRow_sorted_i (w := w) (base := B) (g := blk) (cap := c) (n := n) (e := T) (os := os) (cur := cur) (ss := l) (ts := sortL l) (sortL_perm l).length_eq hb hg hnc hcm hcs
    have hgb := grownBy_sorted_i (w := w) (g := blk) (n := n) (os := os) (sortL l).toArray
    refine hw.upd hi (row := some blk) hgb ?_ (fun k hk => ?_) ?_ (fun a' ha' => .inl ⟨a', ha', rfl⟩)
    · show w.drawn ≤ w.drawn + n
      omega
    · obtain rfl := Option.some.inj hk
      exact ⟨_, rfl, rfl⟩
    · exact hown'
theorem find_ints {f : Nat} (hF : FindsI P f) (hF0 : FindsNo P f) {T m c : Nat} {A : Option Addr} {l : List Int} {x : Int} (i : Nat) (hi : R[i]? = some ⟨T, 1, A, m, c, ints .i64 l, false⟩) (hsz : l.length < 4611686018427387904) (hs : l.Pairwise (· ≤ ·)) :
    Ct P f #[.slice A m c, .int .i64 x] B w0 R (fun v R' => v = .tuple #[.int .i64 (l.countP (· < x) : Nat), .bool (l.contains x)] ∧ R' = R) := by
  intro w hw
  have hown := Row.lies_w (hw.own _ (List.mem_of_getElem? hi)) rfl
  have hrd := Row.rd (hw.own _ (List.mem_of_getElem? hi))
  obtain rfl : m = l.length := hrd.lenI
  rcases hown.2 with ⟨hv, hn⟩ | ⟨blk, cap, cur, hv, hb, hg, hnc, hcm, hcs, ht⟩
  · simp only at hn
    have hl : l = [] := List.eq_nil_of_length_eq_zero hn
    subst hl
    refine (hF0 A c x w).mono ?_
    rintro e w' ⟨rfl, rfl⟩
    exact ⟨_, _, rfl, hw, rfl, rfl⟩
  · simp only [Value.slice.injEq, true_and] at hv
    obtain ⟨rfl, rfl⟩ := hv
    have ht' : l.take l.length = l := List.take_length
    have := hF blk 0 l.length c l x w (Nat.le_refl _) hsz (fun j hj => by
      rw [Nat.zero_add]
      exact hw.cellAt i hi rfl (by simp [ints, List.getD_eq_getElem?_getD, hj])) (by rw [ht']; exact hs)
    rw [ht'] at this
    refine this.mono ?_
    rintro e w' ⟨rfl, q, rfl⟩
    exact ⟨_, _, rfl, hw.drawn _ (Nat.le_add_right _ _), rfl, rfl⟩
end
end Go.Eng
