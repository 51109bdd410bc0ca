/- Several texts of our own in one: V2, S2, E19, G2, G3, G4, G5, S3, E22, I1. -/
import Derived.Shelf.Abstract
import Derived.WalkKit
import Derived.OwnWalkIn
import Derived.TacticsInMore
import Derived.LoopNIn
import Derived.LoopIn
import Derived.Test.YtipnciohgbjjhaaGreatProg
import Derived.Ground.NamesProg
import Derived.Ground.Names2Prog
import Derived.Shelf.Sort.Plain
import Derived.Shelf.Slices.SearchI
import Derived.Shelf.Slices.In.SortNone
import Derived.Shelf.Slices.Empties
import Derived.Lib.SlKeysI
import Derived.Shelf.Bits.Mul64
import Derived.Laws.CopyRow
import Derived.Laws.IdiomCopy
import Derived.Test.YtipnciohgbjjhaaGreatD3
/-! ## V2 -/
namespace Go.Proofs.YtipnciohgbjjhaaGreat
open Go Go.Eng Go.RowKit Go.Shelf Go.Proofs
attribute [local go_sem] Oper.semAt_some
theorem back_cell {W : World} {a : Addr} {n c : Nat} {xs : List Value} (h : Rd W (some a) n c 1 xs) {j : Nat} (hj : j < xs.length) : W.cell? (a.add j) = some (xs[j]'hj) := by
  obtain ⟨b, h1, h2⟩ := h.at_ j _ (List.getElem?_eq_getElem hj)
  obtain rfl := Option.some.inj h1
  exact h2
theorem _root_.Go.Eng.Iter.congr {P : Program} {gf : Nat} {lb : Array Value} {Rdy : World → Prop} {N : Nat} {f f' : Nat → List Value} (it : Iter P gf lb Rdy N f) (h : ∀ k, k < N → f k = f' k) : Iter P gf lb Rdy N f' :=
  fun l J W hR hY h0 => it l J W hR (fun k W hk hJ => by rw [h k hk]; exact hY k W hk hJ) h0
theorem ints_getD {k : IntKind} {zs : List Int} {j : Nat} (h : j < zs.length) : (ints k zs)[j]?.getD undef = .int k (rd zs (j : Int)) := by
  have := Go.Eng.ints_at (k := k) (l := zs) (i := (j : Int)) (by omega) (by omega)
  rw [Int.toNat_natCast] at this
  rw [this, Option.getD_some]

set_option maxRecDepth 100000 in
set_option maxHeartbeats 2000000 in
theorem backI_it {g : Nat} {A : Option Addr} {c : Nat} {xs : List Value} (hmax : xs.length ≤ 1000000) : Iter Tryz.prog 166 #[.pointer (some ⟨g, 0, none⟩)] (fun w => Rd w (some ⟨g, 0, none⟩) 1 1 1 [.slice A xs.length c] ∧ Rd w A xs.length c 1 xs) xs.length
    (fun k => [.int .i64 (((xs.length - 1 - k : Nat) : Int)), xs[xs.length - 1 - k]?.getD undef]) := by
  intro l J W hR hY h0
  rcases Nat.eq_zero_or_pos xs.length with hz | hpos
  · have hc : W.cell? ⟨g, 0, none⟩ = some (.slice A xs.length c) := back_cell (hR _ _ h0).1 (j := 0) (by simp)
    rw [hz] at hc
    refine callsIn_of_wp Tryz.func166 rfl trivial ?_ rfl
    simp only [Tryz.ntmps166, List.size_toArray, List.length_cons, List.length_nil, Nat.reduceAdd, Nat.reduceSub, Array.replicate_succ, Array.replicate_zero, List.push_toArray, List.append_toArray, List.nil_append, List.cons_append]
    gi_wp2
    gi_loopw [3] (fun i wr => i = .int .i64 (-1) ∧ J 0 wr) (fun _ _ => 0)
    case atStart => exact ⟨rfl, h0⟩
    case round =>
      obtain ⟨rfl, hJs⟩ := hrel
      gi_wp2
      go_end0
      exact ⟨⟨_, rfl⟩, by rw [hz]; exact hJs⟩
  · obtain ⟨a, rfl⟩ : ∃ a, A = some a := by
      obtain ⟨a, h1, _⟩ := (hR _ _ h0).2.at_ 0 _ (List.getElem?_eq_getElem hpos)
      exact ⟨a, h1⟩
    have hc : W.cell? ⟨g, 0, none⟩ = some (.slice (some a) xs.length c) := back_cell (hR _ _ h0).1 (j := 0) (by simp)
    refine callsIn_of_wp Tryz.func166 rfl trivial ?_ rfl
    simp only [Tryz.ntmps166, List.size_toArray, List.length_cons, List.length_nil, Nat.reduceAdd, Nat.reduceSub, Array.replicate_succ, Array.replicate_zero, List.push_toArray, List.append_toArray, List.nil_append, List.cons_append]
    gi_wp2
    gi_loopw [3] (fun i wr => (∃ k j : Nat, k + j + 1 = xs.length ∧ i = .int .i64 (j : Int) ∧ J k wr) ∨ (i = .int .i64 (-1) ∧ J xs.length wr)) (fun i _ => (intOf i + 1).toNat)
    case atStart => exact .inl ⟨0, xs.length - 1, by omega, by rw [show ((xs.length : Int) - 1) = ((xs.length - 1 : Nat) : Int) by omega], h0⟩
    case round =>
      rcases hrel with ⟨k, j, hkj, rfl, hJs⟩ | ⟨rfl, hJs⟩
      · obtain ⟨fn, tmps, assign, body, hy, hRd⟩ := hY k wr (by omega) hJs
        rw [show xs.length - 1 - k = j by omega] at hy
        have hjl : j < xs.length := by omega
        rw [List.getElem?_eq_getElem hjl] at hy
        simp only [Option.getD_some] at hy
        have hc1 : wr.cell? ⟨g, 0, none⟩ = some (.slice (some a) xs.length c) := back_cell (hR _ _ hJs).1 (j := 0) (by simp)
        have hc2 := back_cell (hR _ _ hJs).2 hjl
        gi_wp2
        refine ⟨rfl, hRd.mono ?_⟩
        rintro e W3 ⟨rfl, hJ3⟩
        gi_wp2
        go_roundw
        case rel =>
          rcases Nat.eq_zero_or_pos j with rfl | hj
          · exact .inr ⟨by simp, by rw [← hkj]; exact hJ3⟩
          · exact .inl ⟨k + 1, j - 1, by omega, by rw [show ((j : Int) - 1) = ((j - 1 : Nat) : Int) by omega], hJ3⟩
        case measure => simp [intOf]
      · gi_wp2
        go_end0
        exact ⟨⟨_, rfl⟩, hJs⟩

theorem backI_ints {g : Nat} {A : Option Addr} {c : Nat} {zs : List Int} (hmax : zs.length ≤ 1000000) : Iter Tryz.prog 166 #[.pointer (some ⟨g, 0, none⟩)] (fun w => Rd w (some ⟨g, 0, none⟩) 1 1 1 [.slice A zs.length c] ∧ Rd w A zs.length c 1 (ints .i64 zs)) zs.length
    (fun k => [.int .i64 (((zs.length - 1 - k : Nat) : Int)), .int .i64 (rd zs ((zs.length - 1 - k : Nat) : Int))]) := by
  have h := backI_it (g := g) (A := A) (c := c) (xs := ints .i64 zs) (by rw [ints_length]; exact hmax)
  rw [ints_length] at h
  exact h.congr fun k hk => by rw [ints_getD (by omega)]

set_option maxRecDepth 100000 in
set_option maxHeartbeats 2000000 in
theorem vals0_it {g : Nat} {A : Option Addr} {c : Nat} {xs : List Value} : Iter Tryz.prog 363 #[.pointer (some ⟨g, 0, none⟩)] (fun w => Rd w (some ⟨g, 0, none⟩) 1 1 1 [.slice A xs.length c] ∧ Rd w A xs.length c 1 xs) xs.length
    (fun k => [xs[k]?.getD undef]) := by
  intro l J W hR hY h0
  have hmax := (hR _ _ h0).2.max
  rcases Nat.eq_zero_or_pos xs.length with hz | hpos
  · have hc : W.cell? ⟨g, 0, none⟩ = some (.slice A xs.length c) := back_cell (hR _ _ h0).1 (j := 0) (by simp)
    rw [hz] at hc
    refine callsIn_of_wp Tryz.func363 rfl trivial ?_ rfl
    simp only [Tryz.ntmps363, List.size_toArray, List.length_cons, List.length_nil, Nat.reduceAdd, Nat.reduceSub, Array.replicate_succ, Array.replicate_zero, List.push_toArray, List.append_toArray, List.nil_append, List.cons_append]
    gi_wp2
    gi_loopw [7] (fun i wr => i = .int .i64 0 ∧ J 0 wr) (fun _ _ => 0)
    case atStart => exact ⟨rfl, h0⟩
    case round =>
      obtain ⟨rfl, hJs⟩ := hrel
      gi_wp2
      go_end0
      exact ⟨⟨_, rfl⟩, by rw [hz]; exact hJs⟩
  · obtain ⟨a, rfl⟩ : ∃ a, A = some a := by
      obtain ⟨a, h1, _⟩ := (hR _ _ h0).2.at_ 0 _ (List.getElem?_eq_getElem hpos)
      exact ⟨a, h1⟩
    have hc : W.cell? ⟨g, 0, none⟩ = some (.slice (some a) xs.length c) := back_cell (hR _ _ h0).1 (j := 0) (by simp)
    refine callsIn_of_wp Tryz.func363 rfl trivial ?_ rfl
    simp only [Tryz.ntmps363, List.size_toArray, List.length_cons, List.length_nil, Nat.reduceAdd, Nat.reduceSub, Array.replicate_succ, Array.replicate_zero, List.push_toArray, List.append_toArray, List.nil_append, List.cons_append]
    gi_wp2
    gi_loopw [7] (fun i wr => ∃ k : Nat, k ≤ xs.length ∧ i = .int .i64 k ∧ J k wr) (fun i _ => xs.length - (intOf i).toNat)
    case atStart => exact ⟨0, Nat.zero_le _, rfl, h0⟩
    case round =>
      obtain ⟨k, hk, rfl, hJs⟩ := hrel
      by_cases hlt : k < xs.length
      · obtain ⟨fn, tmps, assign, body, hy, hRd⟩ := hY k wr hlt hJs
        rw [List.getElem?_eq_getElem hlt] at hy
        simp only [Option.getD_some] at hy
        have hc1 : wr.cell? ⟨g, 0, none⟩ = some (.slice (some a) xs.length c) := back_cell (hR _ _ hJs).1 (j := 0) (by simp)
        have hc2 := back_cell (hR _ _ hJs).2 hlt
        gi_wp2
        refine ⟨rfl, hRd.mono ?_⟩
        rintro e W3 ⟨rfl, hJ3⟩
        gi_wp2
        go_roundw
        case rel => exact ⟨k + 1, by omega, by simp, hJ3⟩
        case measure => simp [intOf]; omega
      · obtain rfl : k = xs.length := by omega
        gi_wp2
        go_end0
        exact ⟨⟨_, rfl⟩, hJs⟩

theorem vals0_ints {g : Nat} {A : Option Addr} {c : Nat} {zs : List Int} : Iter Tryz.prog 363 #[.pointer (some ⟨g, 0, none⟩)] (fun w => Rd w (some ⟨g, 0, none⟩) 1 1 1 [.slice A zs.length c] ∧ Rd w A zs.length c 1 (ints .i64 zs)) zs.length
    (fun k => [.int .i64 (rd zs (k : Int))]) := by
  have h := vals0_it (g := g) (A := A) (c := c) (xs := ints .i64 zs)
  rw [ints_length] at h
  exact h.congr fun k hk => by rw [ints_getD hk]
end Go.Proofs.YtipnciohgbjjhaaGreat

/-! ## S2 -/
namespace Go.Proofs
open Go.Shelf
def Tryz.lays189_ren : Go.Shelf.Ren := ⟨fun | 189 => 362 | 125 => 168 | 257 => 375 | 128 => 245 | 129 => 246 | 294 => 376 | 295 => 377 | 296 => 378 | 297 => 379 | 298 => 380 | 299 => 381 | 216 => 365 | 300 => 382 | 301 => 383 | 328 => 384 | 329 => 295 | 330 => 296 | 331 => 385 | 332 => 386 | 215 => 231 | 343 => 387 | n => n, fun | 28 => 24 | 3 => 3 | 46 => 161 | 0 => 0 | 51 => 173 | 53 => 167 | 4 => 4 | 183 => 281 | 182 => 280 | 131 => 130 | 5 => 5 | 9 => 9 | 218 => 322 | 222 => 326 | 228 => 351 | 229 => 352 | n => n, fun | n => n⟩
theorem Tryz.lays189 : Go.Proofs.Lays.n189 Tryz.prog Tryz.lays189_ren := {
  mixed := by kernel_rfl
  f125 := Tryz.func168.trans (congrArg some (by kernel_rfl))
  f128 := Tryz.func245.trans (congrArg some (by kernel_rfl))
  f129 := Tryz.func246.trans (congrArg some (by kernel_rfl))
  f189 := Tryz.func362.trans (congrArg some (by kernel_rfl))
  f215 := Tryz.func231.trans (congrArg some (by kernel_rfl))
  f216 := Tryz.func365.trans (congrArg some (by kernel_rfl))
  f257 := Tryz.func375.trans (congrArg some (by kernel_rfl))
  f294 := Tryz.func376.trans (congrArg some (by kernel_rfl))
  f295 := Tryz.func377.trans (congrArg some (by kernel_rfl))
  f296 := Tryz.func378.trans (congrArg some (by kernel_rfl))
  f297 := Tryz.func379.trans (congrArg some (by kernel_rfl))
  f298 := Tryz.func380.trans (congrArg some (by kernel_rfl))
  f299 := Tryz.func381.trans (congrArg some (by kernel_rfl))
  f300 := Tryz.func382.trans (congrArg some (by kernel_rfl))
  f301 := Tryz.func383.trans (congrArg some (by kernel_rfl))
  f328 := Tryz.func384.trans (congrArg some (by kernel_rfl))
  f329 := Tryz.func295.trans (congrArg some (by kernel_rfl))
  f330 := Tryz.func296.trans (congrArg some (by kernel_rfl))
  f331 := Tryz.func385.trans (congrArg some (by kernel_rfl))
  f332 := Tryz.func386.trans (congrArg some (by kernel_rfl))
  f343 := Tryz.func387.trans (congrArg some (by kernel_rfl))
  t0 := Tryz.underlying0
  a0 := Tryz.isAgg0
  z0 := Tryz.sizeOf0
  v0 := Tryz.zeroValue0
  t3 := Tryz.underlying3
  a3 := Tryz.isAgg3
  z3 := Tryz.sizeOf3
  v3 := Tryz.zeroValue3
  t4 := Tryz.underlying4
  a4 := Tryz.isAgg4
  z4 := Tryz.sizeOf4
  v4 := Tryz.zeroValue4
  t5 := Tryz.underlying5
  a5 := Tryz.isAgg5
  z5 := Tryz.sizeOf5
  v5 := Tryz.zeroValue5
  t9 := Tryz.underlying9
  a9 := Tryz.isAgg9
  z9 := Tryz.sizeOf9
  v9 := Tryz.zeroValue9
  t28 := Tryz.underlying24
  a28 := Tryz.isAgg24
  z28 := Tryz.sizeOf24
  v28 := Tryz.zeroValue24
  t46 := Tryz.underlying161
  a46 := Tryz.isAgg161
  z46 := Tryz.sizeOf161
  v46 := Tryz.zeroValue161
  t51 := Tryz.underlying173
  a51 := Tryz.isAgg173
  z51 := Tryz.sizeOf173
  v51 := Tryz.zeroValue173
  t53 := Tryz.underlying167
  a53 := Tryz.isAgg167
  z53 := Tryz.sizeOf167
  v53 := Tryz.zeroValue167
  t131 := Tryz.underlying130
  a131 := Tryz.isAgg130
  z131 := Tryz.sizeOf130
  v131 := Tryz.zeroValue130
  t182 := Tryz.underlying280
  a182 := Tryz.isAgg280
  z182 := Tryz.sizeOf280
  v182 := Tryz.zeroValue280
  t183 := Tryz.underlying281
  a183 := Tryz.isAgg281
  z183 := Tryz.sizeOf281
  v183 := Tryz.zeroValue281
  t218 := Tryz.underlying322
  a218 := Tryz.isAgg322
  z218 := Tryz.sizeOf322
  v218 := Tryz.zeroValue322
  t222 := Tryz.underlying326
  a222 := Tryz.isAgg326
  z222 := Tryz.sizeOf326
  v222 := Tryz.zeroValue326
  t228 := Tryz.underlying351
  a228 := Tryz.isAgg351
  z228 := Tryz.sizeOf351
  v228 := Tryz.zeroValue351
  t229 := Tryz.underlying352
  a229 := Tryz.isAgg352
  z229 := Tryz.sizeOf352
  v229 := Tryz.zeroValue352 }
open Go.Sort Go.RowKit in
theorem Tryz.slices_Sort_int (blk off cap : Nat) (zs : List Int) (w : World) (hH : Holds (Value.int .i64) w blk off zs.toArray) (hblk : blk < w.heap.size) (hsz : zs.length < 4611686018427387904) :
    Calls Tryz.prog 362 #[.slice (some ⟨blk, off, none⟩) zs.length cap] w fun e w' =>
      e = .returned (.tuple #[]) ∧ ∃ n os, w' = grow (putRow (Value.int .i64) (Sort.ahead w n) blk off (zs.mergeSort fun x y => decide (x ≤ y)).toArray) os := Any.slices_Sort_int Tryz.lays189 blk off cap zs w hH hblk hsz
def Tryz.laysNm225_ren : Go.Shelf.Ren := ⟨fun | 25 => 349 | 31 => 365 | 32 => 366 | 37 => 231 | n => n, fun | 22 => 24 | 3 => 3 | 4 => 4 | 40 => 161 | 0 => 0 | n => n, fun | n => n⟩
theorem Tryz.laysNm225 : Go.Proofs.Lays2.n25 Tryz.prog Tryz.laysNm225_ren := {
  mixed := by kernel_rfl
  f25 := Tryz.func349.trans (congrArg some (by kernel_rfl))
  f31 := Tryz.func365.trans (congrArg some (by kernel_rfl))
  f32 := Tryz.func366.trans (congrArg some (by kernel_rfl))
  f37 := Tryz.func231.trans (congrArg some (by kernel_rfl))
  t0 := Tryz.underlying0
  a0 := Tryz.isAgg0
  z0 := Tryz.sizeOf0
  v0 := Tryz.zeroValue0
  t3 := Tryz.underlying3
  a3 := Tryz.isAgg3
  z3 := Tryz.sizeOf3
  v3 := Tryz.zeroValue3
  t4 := Tryz.underlying4
  a4 := Tryz.isAgg4
  z4 := Tryz.sizeOf4
  v4 := Tryz.zeroValue4
  t22 := Tryz.underlying24
  a22 := Tryz.isAgg24
  z22 := Tryz.sizeOf24
  v22 := Tryz.zeroValue24
  t40 := Tryz.underlying161
  a40 := Tryz.isAgg161
  z40 := Tryz.sizeOf161
  v40 := Tryz.zeroValue161 }
open Go.RowKit Go.Lib in
/-- slices.BinarySearch at []int: "BinarySearch searches for target in a sorted slice and returns the earliest position where target is found, or the position where target would appear in the sort order; it also returns a bool saying whether the target is really found in the slice. The slice must be sorted in increasing order.": OF A SORTED SLICE IT RETURNS how many elements are less than the target, and whether the target is among the elements; the world is asx it was but for the count of draws. 'zs': what the cells behind the slice's address hold; 'zs.take n': its elements. (Of a slice that is not sorted: no contract here.) (LAID: no walk: one application.) -/
theorem Tryz.slices_BinarySearch_int (b off n c : Nat) (zs : List Int) (x : Int) (w : World) (hz : n ≤ zs.length) (hbig : n < 4611686018427387904) (hc : ∀ j, j < zs.length → w.cell? ⟨b, off + j, none⟩ = some (.int .i64 (zs.getD j 0))) (hs : (zs.take n).Pairwise (· ≤ ·)) :
    Calls Tryz.prog 349 #[.slice (some ⟨b, off, none⟩) n c, .int .i64 x] w fun e w' => e = .returned (.tuple #[.int .i64 ((zs.take n).countP (· < x) : Nat), .bool ((zs.take n).contains x)]) ∧ ∃ q, w' = w.drewN q := Any.slices_BinarySearch_int Tryz.laysNm225 b off n c zs x w hz hbig hc hs
open Go.RowKit Go.Sort in
/-- .. and plain. (LAID: no walk: one application.) -/
theorem Tryz.slices_Sort_int_none (p : Option Addr) (cap : Nat) (w : World) :
    Calls Tryz.prog 362 #[.slice p 0 cap] w fun e w' => e = .returned (.tuple #[]) ∧ w' = w := Any.slices_Sort_int_none Tryz.lays189 p cap w
open Go.RowKit Go.Lib in
/-- slices.BinarySearch at []int of no element: position 0, not found; the world is asx it was. (LAID: no walk: one application.) -/
theorem Tryz.slices_BinarySearch_int_empty (a : Option Addr) (c : Nat) (x : Int) (w : World) :
    Calls Tryz.prog 349 #[.slice a 0 c, .int .i64 x] w fun e w' => e = .returned (.tuple #[.int .i64 0, .bool false]) ∧ w' = w := Any.slices_BinarySearch_int_empty Tryz.laysNm225 a c x w
end Go.Proofs

/-! ## E19 -/
namespace Go.Eng
open Go Go.RowKit Go.Proofs Go.Sort
section
variable {P : Program} {B : Nat} {w0 : World} {R : List Row}
/-- What the kit's contracts say. -/
def SortsI (P : Program) (f : Nat) : Prop := ∀ (blk off cap : Nat) (zs : List Int) (w : World) (_ : Holds (Value.int .i64) w blk off zs.toArray) (_ : blk < w.heap.size) (_ : zs.length < 4611686018427387904),
  Calls P f #[.slice (some ⟨blk, off, none⟩) zs.length cap] w fun e w' => e = .returned (.tuple #[]) ∧ ∃ n os, w' = grow (putRow (Value.int .i64) (Sort.ahead w n) blk off (zs.mergeSort fun x y => decide (x ≤ y)).toArray) os
def SortsNo (P : Program) (f : Nat) : Prop := ∀ (p : Option Addr) (cap : Nat) (w : World), Calls P f #[.slice p 0 cap] w fun e w' => e = .returned (.tuple #[]) ∧ w' = w
def FindsI (P : Program) (f : Nat) : Prop := ∀ (b off n c : Nat) (zs : List Int) (x : Int) (w : World) (_ : n ≤ zs.length) (_ : n < 4611686018427387904) (_ : ∀ j, j < zs.length → w.cell? ⟨b, off + j, none⟩ = some (.int .i64 (zs.getD j 0))) (_ : (zs.take n).Pairwise (· ≤ ·)),
  Calls P f #[.slice (some ⟨b, off, none⟩) n c, .int .i64 x] w fun e w' => e = .returned (.tuple #[.int .i64 ((zs.take n).countP (· < x) : Nat), .bool ((zs.take n).contains x)]) ∧ ∃ q, w' = w.drewN q
def FindsNo (P : Program) (f : Nat) : Prop := ∀ (a : Option Addr) (c : Nat) (x : Int) (w : World), Calls P f #[.slice a 0 c, .int .i64 x] w fun e w' => e = .returned (.tuple #[.int .i64 0, .bool false]) ∧ w' = w
def sortL (l : List Int) : List Int := l.mergeSort fun x y => decide (x ≤ y)
theorem sortL_perm (l : List Int) : (sortL l).Perm l := List.mergeSort_perm _ _
theorem sortL_sorted (l : List Int) : (sortL l).Pairwise (· ≤ ·) := by
  have := List.pairwise_mergeSort (le := fun x y : Int => decide (x ≤ y)) (fun a b c h1 h2 => by simp at *; omega) (fun a b => by simp; omega) l
  exact this.imp fun h => by simpa using h
theorem sort_ints {f : Nat} (hS : SortsI P f) (hS0 : SortsNo P f) {T m c : Nat} {A : Option Addr} {l : List Int} (i : Nat) (hi : R[i]? = some ⟨T, 1, A, m, c, ints .i64 l, false⟩) (hsz : l.length < 4611686018427387904) :
    Ct P f #[.slice A m c] B w0 R (fun v R' => v = .tuple #[] ∧ R' = R.set i ⟨T, 1, A, m, c, ints .i64 (sortL l), false⟩) := by
  intro w hw
  have hown := Row.lies_w (hw.own _ (List.mem_of_getElem? hi)) rfl
  have hrd := Row.rd (hw.own _ (List.mem_of_getElem? hi))
  obtain rfl : m = l.length := hrd.lenI
  rcases hown.2 with ⟨hv, hn⟩ | ⟨blk, cap, cur, hv, hb, hg, hnc, hcm, hcs, ht⟩
  · simp only at hn
    have hl : l = [] := List.eq_nil_of_length_eq_zero hn
    subst hl
    refine (hS0 A c w).mono ?_
    rintro e w' ⟨rfl, rfl⟩
    refine ⟨_, _, rfl, ?_, rfl, rfl⟩
    have e : sortL [] = [] := by simp [sortL]
    rw [e]
    have : R.set i ⟨T, 1, A, ([] : List Int).length, c, ints .i64 [], false⟩ = R := by
      apply List.ext_getElem?
      intro k
      rw [List.getElem?_set]
      split
      · rename_i h
        subst h
        split
        · exact hi.symm
        · rename_i h2
          rw [List.getElem?_eq_none (by omega)]
      · rfl
    rw [this]
    exact hw
  · simp only [Value.slice.injEq, true_and] at hv
    obtain ⟨rfl, rfl⟩ := hv
    simp only at ht hcs hg hnc
    have hlt : blk < w.heap.size := (Array.getElem?_eq_some_iff.1 hg).1
    have hH : Holds (Value.int .i64) w blk 0 l.toArray := by
      intro j hj
      have hj' : j < l.length := by simpa using hj
      have e : (ints .i64 l)[j]? = some (.int .i64 (l.toArray[j]!)) := by
        rw [getElem!_pos l.toArray j hj]
        simp [ints, hj']
      refine ⟨?_, ?_⟩
      · rw [Nat.zero_add]
        exact hw.cellAt i hi rfl e
      · exact hw.openAt i (0 + j) hi rfl rfl
    refine (hS blk 0 c l w hH hlt hsz).mono ?_
    rintro e w' ⟨rfl, n, os, rfl⟩
    refine ⟨_, _, rfl, ?_, rfl, rfl⟩
    have hown' := ownsRow_sorted_i (w := w) (base := B) (g := blk) (cap := c) (n := n) (e := T) (os := os) (cur := cur) (ss := l) (ts := sortL l) (sortL_perm l).length_eq hb hg hnc hcm hcs
    have hgb := grownBy_sorted_i (w := w) (g := blk) (n := n) (os := os) (sortL l).toArray
    refine hw.upd hi (row := some blk) hgb ?_ (fun k hk => ?_) ?_ (fun a' ha' => .inl ⟨a', ha', rfl⟩)
    · show w.drawn ≤ w.drawn + n
      omega
    · obtain rfl := Option.some.inj hk
      exact ⟨_, rfl, rfl⟩
    · exact hown'
theorem find_ints {f : Nat} (hF : FindsI P f) (hF0 : FindsNo P f) {T m c : Nat} {A : Option Addr} {l : List Int} {x : Int} (i : Nat) (hi : R[i]? = some ⟨T, 1, A, m, c, ints .i64 l, false⟩) (hsz : l.length < 4611686018427387904) (hs : l.Pairwise (· ≤ ·)) :
    Ct P f #[.slice A m c, .int .i64 x] B w0 R (fun v R' => v = .tuple #[.int .i64 (l.countP (· < x) : Nat), .bool (l.contains x)] ∧ R' = R) := by
  intro w hw
  have hown := Row.lies_w (hw.own _ (List.mem_of_getElem? hi)) rfl
  have hrd := Row.rd (hw.own _ (List.mem_of_getElem? hi))
  obtain rfl : m = l.length := hrd.lenI
  rcases hown.2 with ⟨hv, hn⟩ | ⟨blk, cap, cur, hv, hb, hg, hnc, hcm, hcs, ht⟩
  · simp only at hn
    have hl : l = [] := List.eq_nil_of_length_eq_zero hn
    subst hl
    refine (hF0 A c x w).mono ?_
    rintro e w' ⟨rfl, rfl⟩
    exact ⟨_, _, rfl, hw, rfl, rfl⟩
  · simp only [Value.slice.injEq, true_and] at hv
    obtain ⟨rfl, rfl⟩ := hv
    have ht' : l.take l.length = l := List.take_length
    have := hF blk 0 l.length c l x w (Nat.le_refl _) hsz (fun j hj => by
      rw [Nat.zero_add]
      exact hw.cellAt i hi rfl (by simp [ints, List.getD_eq_getElem?_getD, hj])) (by rw [ht']; exact hs)
    rw [ht'] at this
    refine this.mono ?_
    rintro e w' ⟨rfl, q, rfl⟩
    exact ⟨_, _, rfl, hw.drawn _ (Nat.le_add_right _ _), rfl, rfl⟩
end
end Go.Eng

/-! ## G2 -/
namespace Go.Proofs.YtipnciohgbjjhaaGreat
open Go Go.Eng Go.Pure
set_option linter.unusedVariables false
set_option maxRecDepth 100000 in
theorem on15_ct {w : World} {A_l : Option Addr} {n_l c_l : Nat} {l : List Int} {i : Int} {h : Int} (h_l : Rd w A_l n_l c_l 1 (ints .i64 l)) (hb : (0 ≤ i ∧ i ≤ 1000000) ∧ (0 ≤ h ∧ h ≤ 1000000)) (hl : ∀ x ∈ l, 0 ≤ x ∧ x ≤ 1000000) :
    Ct Tryz.prog 350 #[.slice A_l n_l c_l, .int .i64 i, .int .i64 h] w.heap.size w [] (fun v R' => v = .int .i64 (onF l i h)) := by
  obtain rfl := h_l.lenI
  refine fn1 Tryz.func350 rfl rfl rfl ?_
  have m_l := h_l.max
  refine w_seq ?_
  refine w_reg ?_
  refine wr_y rfl (y_assign rfl) ?_
  refine wr_nil ?_
  refine w_seq ?_
  refine w_seq ?_
  refine w_reg ?_
  refine wr_y rfl (y_move rfl) ?_
  refine wr_y rfl (y_move rfl) ?_
  refine wr_y rfl (y_addI rfl rfl (by omega)) ?_
  refine wr_y rfl (y_move rfl) ?_
  refine wr_y rfl (y_len Tryz.underlying24 rfl) ?_
  refine wr_y rfl (y_ge rfl rfl) ?_
  refine wr_nil ?_
  refine w_if rfl (fun hc1 => ?_) (fun hc1 => ?_)
  ·
    refine w_seq ?_
    refine w_reg ?_
    refine wr_y rfl (y_assign rfl) ?_
    refine wr_nil ?_
    refine w_ret ?_
    refine ⟨_, rfl, ?_⟩
    exact congrArg (Value.int .i64) (by unfold onF; rw [if_pos (by omega)])
  ·
    have hm := hl _ (rd_mem (L := l) (k := i + h) (by omega) (by omega))
    refine w_skip ?_
    refine w_seq ?_
    refine w_reg ?_
    refine wr_y rfl (y_move rfl) ?_
    refine wr_y rfl (y_move rfl) ?_
    refine wr_y rfl (y_move rfl) ?_
    refine wr_y rfl (y_addI rfl rfl (by omega)) ?_
    refine wr_y rfl (y_index1 Tryz.underlying24 sz3 rfl rfl (h_l.c _) (by omega) (by omega)) ?_
    refine wr_y rfl (y_ldI Tryz.underlying3 rfl rfl (h_l.c _) (by omega) (by omega)) ?_
    refine wr_y rfl (y_addI rfl rfl (by omega)) ?_
    refine wr_y rfl (y_assign rfl) ?_
    refine wr_nil ?_
    refine w_ret ?_
    refine ⟨_, rfl, ?_⟩
    exact congrArg (Value.int .i64) (by unfold onF; rw [if_neg (by omega)])

set_option maxRecDepth 100000 in
set_option maxHeartbeats 1200000 in
theorem joined_ct {w : World} {A_l : Option Addr} {n_l c_l : Nat} {l : List Int} {h : Int} {s : List Int} {n b : Nat} (h_l : Rd w A_l n_l c_l 1 (ints .i64 l)) (hl : l = rkL s n) (hh : h = b) (hn : 0 < n) (hb : b ≤ n) (hN : s.length ≤ 100000 ∧ n ≤ 100000) :
    Ct Tryz.prog 321 #[.slice A_l n_l c_l, .int .i64 h] w.heap.size w [] (fun v R' => ∃ A c A' c', v = .tuple #[.slice A s.length c, .slice A' s.length c'] ∧ R' = [⟨3, 1, A, s.length, c, ints .i64 (rkL s (n + b)), false⟩, ⟨3, 1, A', s.length, c', ints .i64 (joinO s n b), false⟩]) := by
  obtain rfl := h_l.lenI
  refine fn2 Tryz.func321 rfl rfl rfl ?_
  have m_l := h_l.max
  have hll : l.length = s.length := by rw [hl, rkL_len]
  refine w_seq ?_
  refine w_reg ?_
  refine wr_y rfl (y_assign rfl) ?_
  refine wr_y rfl (y_assign rfl) ?_
  refine wr_nil ?_
  refine w_seq ?_
  refine w_reg ?_
  refine wr_y rfl (y_move rfl) ?_
  refine wr_y rfl (y_len Tryz.underlying24 rfl) ?_
  refine wr_a rfl (a_makeN Tryz.underlying24 zb3 rfl rfl (by omega) (by omega) (by omega)) ?_
  rintro _ _ ⟨g_1, rfl, rfl⟩
  refine wr_rows (R1 := [⟨3, 1, (some ⟨g_1, 0, none⟩), l.length, l.length, ints .i64 (List.replicate l.length (0 : Int)), false⟩]) rfl ?_
  refine wr_as (v := .slice (some ⟨g_1, 0, none⟩) l.length l.length) rfl ?_
  refine wr_y rfl (y_assign rfl) ?_
  refine wr_nil ?_
  refine w_seq ?_
  refine w_reg ?_
  refine wr_y rfl (y_move rfl) ?_
  refine wr_y rfl (y_len Tryz.underlying24 rfl) ?_
  refine wr_a rfl (a_makeN Tryz.underlying24 zb3 rfl rfl (by omega) (by omega) (by omega)) ?_
  rintro _ _ ⟨g_2, rfl, rfl⟩
  refine wr_rows (R1 := [⟨3, 1, (some ⟨g_2, 0, none⟩), l.length, l.length, ints .i64 (List.replicate l.length (0 : Int)), false⟩, ⟨3, 1, (some ⟨g_1, 0, none⟩), l.length, l.length, ints .i64 (List.replicate l.length (0 : Int)), false⟩]) rfl ?_
  refine wr_as (v := .slice (some ⟨g_2, 0, none⟩) l.length l.length) rfl ?_
  refine wr_y rfl (y_assign rfl) ?_
  refine wr_nil ?_
  refine w_seq ?_
  refine w_seq ?_
  refine w_reg ?_
  refine wr_y rfl (y_move rfl) ?_
  refine wr_y rfl (y_len Tryz.underlying24 rfl) ?_
  refine wr_y rfl (y_move rfl) ?_
  refine wr_nil ?_
  refine w_block ?_
  refine w_loop3 (fun (i : Int) (O : List Int) (K : List Int) => [(0, .slice A_l l.length c_l), (1, .int .i64 h), (6, .slice (some ⟨g_1, 0, none⟩) l.length l.length), (7, .slice (some ⟨g_2, 0, none⟩) l.length l.length), (19, .int .i64 ((l.length : Nat) : Int)), (20, .int .i64 i)]) (fun (i : Int) (O : List Int) (K : List Int) => [⟨3, 1, (some ⟨g_2, 0, none⟩), l.length, l.length, ints .i64 K, false⟩, ⟨3, 1, (some ⟨g_1, 0, none⟩), l.length, l.length, ints .i64 O, false⟩]) (fun (i : Int) (O : List Int) (K : List Int) => (0 ≤ i) ∧ (i ≤ s.length) ∧ (O.length = s.length) ∧ (∀ j : Int, 0 ≤ j → j < i → rd O j = j) ∧ (K.length = s.length) ∧ (∀ j : Int, 0 ≤ j → j < i → rd K j = rkOn s n (j.toNat + b))) (fun (i : Int) (O : List Int) (K : List Int) => (s.length - i).toNat) ?_ ?_
  ·
    exact ⟨0, List.replicate l.length (0 : Int), List.replicate l.length (0 : Int), ⟨(by omega), (by omega), (by rw [List.length_replicate, hll]), (fun j h1 h2 => by omega), (by rw [List.length_replicate, hll]), (fun j h1 h2 => by omega)⟩, (Sub.cons rfl (Sub.cons rfl (Sub.cons rfl (Sub.cons rfl (Sub.cons rfl (Sub.cons rfl Sub.nil)))))), fun _ h => h⟩
  intro i O K ⟨hi0, hi1, hOl, hO, hKl, hK⟩
  refine w_seq ?_
  refine w_reg ?_
  refine wr_y rfl (y_lt rfl rfl) ?_
  refine wr_nil ?_
  refine w_seq ?_
  refine w_if rfl (fun hc1 => ?_) (fun hc1 => ?_)
  ·
    refine w_skip ?_
    refine w_seq ?_
    refine w_block ?_
    refine w_seq ?_
    refine w_reg ?_
    refine wr_y rfl (y_move rfl) ?_
    refine wr_y rfl (y_assign rfl) ?_
    refine wr_nil ?_
    refine w_reg ?_
    refine wr_y rfl (y_move rfl) ?_
    refine wr_y rfl (y_move rfl) ?_
    refine wr_y rfl (y_move rfl) ?_
    refine wr_y rfl (y_move rfl) ?_
    refine wr_y rfl (y_move rfl) ?_
    refine wr_y rfl (y_move rfl) ?_
    refine wr_y rfl (y_move rfl) ?_
    refine wr_y rfl (y_move rfl) ?_
    refine wr_a rfl (a_callF en350 rfl (Ct.quiet (fun w hw => on15_ct ((h_l.c _) w hw) ⟨by omega, by omega⟩ (fun x hx => by rw [hl] at hx; have := rkL_bd x hx; omega)))) ?_
    rintro _ _ ⟨rfl, rfl⟩
    refine wr_y rfl (y_index1 Tryz.underlying24 sz3 rfl rfl (rdr 1 rfl) (by omega) (by omega)) ?_
    refine wr_n (a_storeI 1 rfl sz3 rfl rfl (by omega) (by omega)) ?_
    rintro _ _ rfl
    refine wr_rows (R1 := [⟨3, 1, (some ⟨g_2, 0, none⟩), l.length, l.length, ints .i64 K, false⟩, ⟨3, 1, (some ⟨g_1, 0, none⟩), l.length, l.length, ints .i64 (upd O i i), false⟩]) rfl ?_
    refine wr_y rfl (y_index1 Tryz.underlying24 sz3 rfl rfl (rdr 0 rfl) (by omega) (by omega)) ?_
    refine wr_n (a_storeI 0 rfl sz3 rfl rfl (by omega) (by omega)) ?_
    rintro _ _ rfl
    refine wr_rows (R1 := [⟨3, 1, (some ⟨g_2, 0, none⟩), l.length, l.length, ints .i64 (upd K i (onF l i h)), false⟩, ⟨3, 1, (some ⟨g_1, 0, none⟩), l.length, l.length, ints .i64 (upd O i i), false⟩]) rfl ?_
    refine wr_nil ?_
    refine w_reg ?_
    refine wr_y rfl (y_addI rfl rfl (by omega)) ?_
    refine wr_y rfl (y_move rfl) ?_
    refine wr_nil ?_
    exact ⟨i + 1, upd O i i, upd K i (onF l i h), ⟨(by omega), (by omega), (by rw [upd_length]; exact hOl), (fill_step (f := fun j => j) hi0 (by omega) hO rfl), (by rw [upd_length]; exact hKl), (fill_step (f := fun j => (rkOn s n (j.toNat + b) : Int)) hi0 (by omega) hK (by rw [hh, hl]; exact onF_rk hi0 (by omega)))⟩, (by omega), (Sub.cons rfl (Sub.cons rfl (Sub.cons rfl (Sub.cons rfl (Sub.cons rfl (Sub.cons rfl Sub.nil)))))), fun _ h => h⟩
  ·
    obtain rfl : O = iota s.length := iota_of hOl (fun j h1 h2 => hO j h1 (by omega))
    obtain rfl : K = onL s n b := onL_of hKl (fun j h1 h2 => hK j h1 (by omega))
    have hlen1 : (passK (iota s.length) (onL s n b) (((l.length : Nat) : Int) + 1).toNat).length = s.length := by rw [show (((l.length : Nat) : Int) + 1).toNat = s.length + 1 by omega, (join_perm1 s n b).length_eq, iota_len]
    refine w_exit ?_
    refine w_seq ?_
    refine w_reg ?_
    refine wr_y rfl (y_move rfl) ?_
    refine wr_y rfl (y_move rfl) ?_
    refine wr_y rfl (y_move rfl) ?_
    refine wr_y rfl (y_len Tryz.underlying24 rfl) ?_
    refine wr_y rfl (y_addI rfl rfl (by omega)) ?_
    refine wr_a rfl (a_callF en165 rfl (Ct.fresh (fun w hw => pass_ct ((rdr 1 rfl) w hw) ((rdr 0 rfl) w hw) (by omega) (fun x hx => by have := onL_bd x hx; omega) (fun x hx => by have := mem_iota.1 hx; rw [onL_len]; omega) (by rw [iota_len]; omega)))) ?_
    rintro _ _ ⟨_, rfl, A_3, c_4, rfl, rfl⟩
    refine wr_y rfl (y_move rfl) ?_
    refine wr_y rfl (y_extract rfl rfl) ?_
    refine wr_y rfl (y_extract rfl rfl) ?_
    refine wr_y rfl (y_assign rfl) ?_
    refine wr_nil ?_
    refine w_seq ?_
    refine w_reg ?_
    refine wr_y rfl (y_move rfl) ?_
    refine wr_y rfl (y_move rfl) ?_
    refine wr_y rfl (y_move rfl) ?_
    refine wr_y rfl (y_len Tryz.underlying24 rfl) ?_
    refine wr_a rfl (a_callF en165 rfl (Ct.fresh (fun w hw => pass_ct ((rdr 0 rfl) w hw) ((h_l.c _) w hw) (by omega) (fun x hx => by rw [hl] at hx; have := rkL_bd x hx; omega) (fun x hx => by rw [show (((l.length : Nat) : Int) + 1).toNat = s.length + 1 by omega] at hx; have := mem_iota.1 ((join_perm1 s n b).subset hx); omega) (by rw [hlen1]; omega)))) ?_
    rintro _ _ ⟨_, rfl, A_7, c_8, rfl, rfl⟩
    refine wr_y rfl (y_move rfl) ?_
    refine wr_y rfl (y_extract rfl rfl) ?_
    refine wr_y rfl (y_extract rfl rfl) ?_
    refine wr_y rfl (y_assign rfl) ?_
    refine wr_nil ?_
    refine w_seq ?_
    refine w_reg ?_
    refine wr_y rfl (y_move rfl) ?_
    refine wr_y rfl (y_len Tryz.underlying24 rfl) ?_
    refine wr_a rfl (a_makeN Tryz.underlying24 zb3 rfl rfl (by omega) (by omega) (by omega)) ?_
    rintro _ _ ⟨g_11, rfl, rfl⟩
    refine wr_rows (R1 := [⟨3, 1, (some ⟨g_11, 0, none⟩), l.length, l.length, ints .i64 (List.replicate l.length (0 : Int)), false⟩, ⟨3, 1, A_7, (((passK (iota s.length) (onL s n b) ((((l.length : Nat) : Int) + 1)).toNat)).length), c_8, ints .i64 (passK (passK (iota s.length) (onL s n b) ((((l.length : Nat) : Int) + 1)).toNat) l (((l.length : Nat) : Int)).toNat), false⟩, ⟨3, 1, A_3, (((iota s.length)).length), c_4, ints .i64 (passK (iota s.length) (onL s n b) ((((l.length : Nat) : Int) + 1)).toNat), false⟩, ⟨3, 1, (some ⟨g_2, 0, none⟩), l.length, l.length, ints .i64 (onL s n b), false⟩, ⟨3, 1, (some ⟨g_1, 0, none⟩), l.length, l.length, ints .i64 (iota s.length), false⟩]) rfl ?_
    refine wr_as (v := .slice (some ⟨g_11, 0, none⟩) l.length l.length) rfl ?_
    refine wr_y rfl (y_assign rfl) ?_
    refine wr_nil ?_
    refine w_seq ?_
    refine w_seq ?_
    refine w_reg ?_
    refine wr_y rfl (y_move rfl) ?_
    refine wr_y rfl (y_len Tryz.underlying24 rfl) ?_
    refine wr_y rfl (y_move rfl) ?_
    refine wr_nil ?_
    refine w_block ?_
    refine w_loop3 (fun (p : Int) (D : List Int) (V : List Int) => [(0, .slice A_l l.length c_l), (6, .slice A_7 (((passK (iota s.length) (onL s n b) ((((l.length : Nat) : Int) + 1)).toNat)).length) c_8), (7, .slice (some ⟨g_2, 0, none⟩) l.length l.length), (9, .slice (some ⟨g_11, 0, none⟩) l.length l.length), (55, .slice A_7 (((passK (iota s.length) (onL s n b) ((((l.length : Nat) : Int) + 1)).toNat)).length) c_8), (56, .int .i64 ((((passK (iota s.length) (onL s n b) ((((l.length : Nat) : Int) + 1)).toNat)).length : Nat) : Int)), (57, .int .i64 p)]) (fun (p : Int) (D : List Int) (V : List Int) => [⟨3, 1, (some ⟨g_11, 0, none⟩), l.length, l.length, ints .i64 V, false⟩, ⟨3, 1, A_7, (((passK (iota s.length) (onL s n b) ((((l.length : Nat) : Int) + 1)).toNat)).length), c_8, ints .i64 D, false⟩, ⟨3, 1, A_3, (((iota s.length)).length), c_4, ints .i64 (passK (iota s.length) (onL s n b) ((((l.length : Nat) : Int) + 1)).toNat), false⟩, ⟨3, 1, (some ⟨g_2, 0, none⟩), l.length, l.length, ints .i64 (onL s n b), false⟩, ⟨3, 1, (some ⟨g_1, 0, none⟩), l.length, l.length, ints .i64 (iota s.length), false⟩]) (fun (p : Int) (D : List Int) (V : List Int) => (0 ≤ p) ∧ (p ≤ s.length) ∧ (D = joinO s n b) ∧ (V.length = s.length) ∧ (∀ q : Int, 0 ≤ q → q < p → rd V (rd D q) = rkS s (n + b) (rd D q).toNat)) (fun (p : Int) (D : List Int) (V : List Int) => (s.length - p).toNat) ?_ ?_
    ·
      exact ⟨0, passK (passK (iota s.length) (onL s n b) ((((l.length : Nat) : Int) + 1)).toNat) l (((l.length : Nat) : Int)).toNat, List.replicate l.length (0 : Int), ⟨(by omega), (by omega), (by rw [hl, rkL_len]; unfold joinO; rw [show ((s.length : Int) + 1).toNat = s.length + 1 by omega, Int.toNat_natCast]), (by rw [List.length_replicate, hll]), (fun q h1 h2 => by omega)⟩, (Sub.cons rfl (Sub.cons rfl (Sub.cons rfl (Sub.cons rfl (Sub.cons rfl (Sub.cons rfl (Sub.cons rfl Sub.nil))))))), fun _ h => h⟩
    intro p D V ⟨hp0, hp1, hD, hVl, hV⟩
    refine w_seq ?_
    refine w_reg ?_
    refine wr_y rfl (y_lt rfl rfl) ?_
    refine wr_nil ?_
    refine w_seq ?_
    refine w_if rfl (fun hc2 => ?_) (fun hc2 => ?_)
    ·
      have hm := joinO_mem (s := s) (n := n) (b := b) hp0 (by omega)
      rw [← hD] at hm
      refine w_skip ?_
      refine w_seq ?_
      refine w_block ?_
      refine w_seq ?_
      refine w_reg ?_
      refine wr_y rfl (y_move rfl) ?_
      refine wr_y rfl (y_index1 Tryz.underlying24 sz3 rfl rfl (rdr 1 rfl) (by omega) (by omega)) ?_
      refine wr_y rfl (y_ldI Tryz.underlying3 rfl rfl (rdr 1 rfl) (by omega) (by omega)) ?_
      refine wr_y rfl (y_assign rfl) ?_
      refine wr_y rfl (y_assign rfl) ?_
      refine wr_nil ?_
      refine w_seq ?_
      refine w_reg ?_
      refine wr_y rfl (y_move rfl) ?_
      refine wr_y rfl (y_move rfl) ?_
      refine wr_y rfl (y_move rfl) ?_
      refine wr_y rfl (y_index1 Tryz.underlying24 sz3 rfl rfl (rdr 0 rfl) (by omega) (by omega)) ?_
      refine wr_n (a_storeI 0 rfl sz3 rfl rfl (by omega) (by omega)) ?_
      rintro _ _ rfl
      refine wr_rows (R1 := [⟨3, 1, (some ⟨g_11, 0, none⟩), l.length, l.length, ints .i64 (upd V (rd D p) p), false⟩, ⟨3, 1, A_7, (((passK (iota s.length) (onL s n b) ((((l.length : Nat) : Int) + 1)).toNat)).length), c_8, ints .i64 D, false⟩, ⟨3, 1, A_3, (((iota s.length)).length), c_4, ints .i64 (passK (iota s.length) (onL s n b) ((((l.length : Nat) : Int) + 1)).toNat), false⟩, ⟨3, 1, (some ⟨g_2, 0, none⟩), l.length, l.length, ints .i64 (onL s n b), false⟩, ⟨3, 1, (some ⟨g_1, 0, none⟩), l.length, l.length, ints .i64 (iota s.length), false⟩]) rfl ?_
      refine wr_nil ?_
      refine w_join0 [(0, .slice A_l l.length c_l), (6, .slice A_7 (((passK (iota s.length) (onL s n b) ((((l.length : Nat) : Int) + 1)).toNat)).length) c_8), (7, .slice (some ⟨g_2, 0, none⟩) l.length l.length), (9, .slice (some ⟨g_11, 0, none⟩) l.length l.length), (10, .int .i64 p), (11, .int .i64 (rd D p)), (55, .slice A_7 (((passK (iota s.length) (onL s n b) ((((l.length : Nat) : Int) + 1)).toNat)).length) c_8), (56, .int .i64 ((((passK (iota s.length) (onL s n b) ((((l.length : Nat) : Int) + 1)).toNat)).length : Nat) : Int)), (57, .int .i64 p), (97, .bool (decide ((0 < p) ∧ (((rd l (rd D (p - 1))) = (rd l (rd D p))) ∧ ((rd (onL s n b) (rd D (p - 1))) = (rd (onL s n b) (rd D p)))))))] [⟨3, 1, (some ⟨g_11, 0, none⟩), l.length, l.length, ints .i64 (upd V (rd D p) p), false⟩, ⟨3, 1, A_7, (((passK (iota s.length) (onL s n b) ((((l.length : Nat) : Int) + 1)).toNat)).length), c_8, ints .i64 D, false⟩, ⟨3, 1, A_3, (((iota s.length)).length), c_4, ints .i64 (passK (iota s.length) (onL s n b) ((((l.length : Nat) : Int) + 1)).toNat), false⟩, ⟨3, 1, (some ⟨g_2, 0, none⟩), l.length, l.length, ints .i64 (onL s n b), false⟩, ⟨3, 1, (some ⟨g_1, 0, none⟩), l.length, l.length, ints .i64 (iota s.length), false⟩] ?_ ?_
      ·
        refine w_regd mixed ?_
        refine wd_y 0 rfl (by kernel_rfl) rfl (y_move rfl) ?_
        refine wd_y 1 rfl (by kernel_rfl) rfl (y_gt rfl rfl) ?_
        refine wd_y 2 rfl (by kernel_rfl) rfl (y_move rfl) ?_
        refine wd_case 68 rfl (fun hc3 => ?_) (fun hc3 => ?_)
        ·
          refine wd_yg 3 rfl (by kernel_rfl) rfl rfl rfl (y_move rfl) ?_
          refine wd_yg 4 rfl (by kernel_rfl) rfl rfl rfl (y_move rfl) ?_
          refine wd_yg 5 rfl (by kernel_rfl) rfl rfl rfl (y_move rfl) ?_
          refine wd_yg 6 rfl (by kernel_rfl) rfl rfl rfl (y_subI rfl rfl (by omega)) ?_
          refine wd_yg 7 rfl (by kernel_rfl) rfl rfl rfl (y_index1 Tryz.underlying24 sz3 rfl rfl (rdr 1 rfl) (by omega) (by omega)) ?_
          refine wd_yg 8 rfl (by kernel_rfl) rfl rfl rfl (y_ldI Tryz.underlying3 rfl rfl (rdr 1 rfl) (by omega) (by omega)) ?_
          refine wd_yg 9 rfl (by kernel_rfl) rfl rfl rfl (y_index1 Tryz.underlying24 sz3 rfl rfl (h_l.c _) (by first | omega | (have hm1 := joinO_mem (s := s) (n := n) (b := b) (p := p - 1) (by omega) (by omega); rw [← hD] at hm1; omega)) (by first | omega | (have hm1 := joinO_mem (s := s) (n := n) (b := b) (p := p - 1) (by omega) (by omega); rw [← hD] at hm1; omega))) ?_
          refine wd_yg 10 rfl (by kernel_rfl) rfl rfl rfl (y_ldI Tryz.underlying3 rfl rfl (h_l.c _) (by first | omega | (have hm1 := joinO_mem (s := s) (n := n) (b := b) (p := p - 1) (by omega) (by omega); rw [← hD] at hm1; omega)) (by first | omega | (have hm1 := joinO_mem (s := s) (n := n) (b := b) (p := p - 1) (by omega) (by omega); rw [← hD] at hm1; omega))) ?_
          refine wd_yg 11 rfl (by kernel_rfl) rfl rfl rfl (y_move rfl) ?_
          refine wd_yg 12 rfl (by kernel_rfl) rfl rfl rfl (y_move rfl) ?_
          refine wd_yg 13 rfl (by kernel_rfl) rfl rfl rfl (y_index1 Tryz.underlying24 sz3 rfl rfl (h_l.c _) (by omega) (by omega)) ?_
          refine wd_yg 14 rfl (by kernel_rfl) rfl rfl rfl (y_ldI Tryz.underlying3 rfl rfl (h_l.c _) (by omega) (by omega)) ?_
          refine wd_yg 15 rfl (by kernel_rfl) rfl rfl rfl (y_eq rfl rfl) ?_
          refine wd_y 16 rfl (by kernel_rfl) rfl (y_pickT rfl rfl) ?_
          refine wd_y 17 rfl (by kernel_rfl) rfl (y_move rfl) ?_
          refine wd_case 83 rfl (fun hc4 => ?_) (fun hc4 => ?_)
          ·
            refine wd_yg 18 rfl (by kernel_rfl) rfl rfl rfl (y_move rfl) ?_
            refine wd_yg 19 rfl (by kernel_rfl) rfl rfl rfl (y_move rfl) ?_
            refine wd_yg 20 rfl (by kernel_rfl) rfl rfl rfl (y_move rfl) ?_
            refine wd_yg 21 rfl (by kernel_rfl) rfl rfl rfl (y_subI rfl rfl (by omega)) ?_
            refine wd_yg 22 rfl (by kernel_rfl) rfl rfl rfl (y_index1 Tryz.underlying24 sz3 rfl rfl (rdr 1 rfl) (by omega) (by omega)) ?_
            refine wd_yg 23 rfl (by kernel_rfl) rfl rfl rfl (y_ldI Tryz.underlying3 rfl rfl (rdr 1 rfl) (by omega) (by omega)) ?_
            refine wd_yg 24 rfl (by kernel_rfl) rfl rfl rfl (y_index1 Tryz.underlying24 sz3 rfl rfl (rdr 3 rfl) (by first | omega | (have hm1 := joinO_mem (s := s) (n := n) (b := b) (p := p - 1) (by omega) (by omega); rw [← hD] at hm1; omega)) (by first | omega | (have hm1 := joinO_mem (s := s) (n := n) (b := b) (p := p - 1) (by omega) (by omega); rw [← hD] at hm1; omega))) ?_
            refine wd_yg 25 rfl (by kernel_rfl) rfl rfl rfl (y_ldI Tryz.underlying3 rfl rfl (rdr 3 rfl) (by first | omega | (have hm1 := joinO_mem (s := s) (n := n) (b := b) (p := p - 1) (by omega) (by omega); rw [← hD] at hm1; omega)) (by first | omega | (have hm1 := joinO_mem (s := s) (n := n) (b := b) (p := p - 1) (by omega) (by omega); rw [← hD] at hm1; omega))) ?_
            refine wd_yg 26 rfl (by kernel_rfl) rfl rfl rfl (y_move rfl) ?_
            refine wd_yg 27 rfl (by kernel_rfl) rfl rfl rfl (y_move rfl) ?_
            refine wd_yg 28 rfl (by kernel_rfl) rfl rfl rfl (y_index1 Tryz.underlying24 sz3 rfl rfl (rdr 3 rfl) (by omega) (by omega)) ?_
            refine wd_yg 29 rfl (by kernel_rfl) rfl rfl rfl (y_ldI Tryz.underlying3 rfl rfl (rdr 3 rfl) (by omega) (by omega)) ?_
            refine wd_yg 30 rfl (by kernel_rfl) rfl rfl rfl (y_eq rfl rfl) ?_
            refine wd_y 31 rfl (by kernel_rfl) rfl (y_pickT rfl rfl) ?_
            refine wd_nil (by kernel_rfl) ?_
            exact ⟨(Sub.cons rfl (Sub.cons rfl (Sub.cons rfl (Sub.cons rfl (Sub.cons rfl (Sub.cons rfl (Sub.cons rfl (Sub.cons rfl (Sub.cons rfl (Sub.to rfl (mb (by first | omega | exact ⟨fun h => ⟨(by assumption), h⟩, fun h => h.2⟩ | exact .inl (by assumption) | exact ⟨.inr, fun h => h.resolve_left (by assumption)⟩ | exact ⟨fun h => h.resolve_left (by assumption), .inr⟩ | simp [*])) Sub.nil)))))))))), fun _ h => h⟩
          ·
            refine wd_no 18 rfl (by kernel_rfl) rfl rfl rfl rfl ?_
            refine wd_no 19 rfl (by kernel_rfl) rfl rfl rfl rfl ?_
            refine wd_no 20 rfl (by kernel_rfl) rfl rfl rfl rfl ?_
            refine wd_no 21 rfl (by kernel_rfl) rfl rfl rfl rfl ?_
            refine wd_no 22 rfl (by kernel_rfl) rfl rfl rfl rfl ?_
            refine wd_no 23 rfl (by kernel_rfl) rfl rfl rfl rfl ?_
            refine wd_no 24 rfl (by kernel_rfl) rfl rfl rfl rfl ?_
            refine wd_no 25 rfl (by kernel_rfl) rfl rfl rfl rfl ?_
            refine wd_no 26 rfl (by kernel_rfl) rfl rfl rfl rfl ?_
            refine wd_no 27 rfl (by kernel_rfl) rfl rfl rfl rfl ?_
            refine wd_no 28 rfl (by kernel_rfl) rfl rfl rfl rfl ?_
            refine wd_no 29 rfl (by kernel_rfl) rfl rfl rfl rfl ?_
            refine wd_no 30 rfl (by kernel_rfl) rfl rfl rfl rfl ?_
            refine wd_y 31 rfl (by kernel_rfl) rfl (y_pickF rfl rfl) ?_
            refine wd_nil (by kernel_rfl) ?_
            exact ⟨(Sub.cons rfl (Sub.cons rfl (Sub.cons rfl (Sub.cons rfl (Sub.cons rfl (Sub.cons rfl (Sub.cons rfl (Sub.cons rfl (Sub.cons rfl (Sub.to rfl (mb_f (by first | omega | exact ⟨fun h => ⟨(by assumption), h⟩, fun h => h.2⟩ | exact .inl (by assumption) | exact ⟨.inr, fun h => h.resolve_left (by assumption)⟩ | exact ⟨fun h => h.resolve_left (by assumption), .inr⟩ | simp [*])) Sub.nil)))))))))), fun _ h => h⟩
        ·
          refine wd_no 3 rfl (by kernel_rfl) rfl rfl rfl rfl ?_
          refine wd_no 4 rfl (by kernel_rfl) rfl rfl rfl rfl ?_
          refine wd_no 5 rfl (by kernel_rfl) rfl rfl rfl rfl ?_
          refine wd_no 6 rfl (by kernel_rfl) rfl rfl rfl rfl ?_
          refine wd_no 7 rfl (by kernel_rfl) rfl rfl rfl rfl ?_
          refine wd_no 8 rfl (by kernel_rfl) rfl rfl rfl rfl ?_
          refine wd_no 9 rfl (by kernel_rfl) rfl rfl rfl rfl ?_
          refine wd_no 10 rfl (by kernel_rfl) rfl rfl rfl rfl ?_
          refine wd_no 11 rfl (by kernel_rfl) rfl rfl rfl rfl ?_
          refine wd_no 12 rfl (by kernel_rfl) rfl rfl rfl rfl ?_
          refine wd_no 13 rfl (by kernel_rfl) rfl rfl rfl rfl ?_
          refine wd_no 14 rfl (by kernel_rfl) rfl rfl rfl rfl ?_
          refine wd_no 15 rfl (by kernel_rfl) rfl rfl rfl rfl ?_
          refine wd_y 16 rfl (by kernel_rfl) rfl (y_pickF rfl rfl) ?_
          refine wd_y 17 rfl (by kernel_rfl) rfl (y_move rfl) ?_
          refine wd_no 18 rfl (by kernel_rfl) rfl rfl rfl rfl ?_
          refine wd_no 19 rfl (by kernel_rfl) rfl rfl rfl rfl ?_
          refine wd_no 20 rfl (by kernel_rfl) rfl rfl rfl rfl ?_
          refine wd_no 21 rfl (by kernel_rfl) rfl rfl rfl rfl ?_
          refine wd_no 22 rfl (by kernel_rfl) rfl rfl rfl rfl ?_
          refine wd_no 23 rfl (by kernel_rfl) rfl rfl rfl rfl ?_
          refine wd_no 24 rfl (by kernel_rfl) rfl rfl rfl rfl ?_
          refine wd_no 25 rfl (by kernel_rfl) rfl rfl rfl rfl ?_
          refine wd_no 26 rfl (by kernel_rfl) rfl rfl rfl rfl ?_
          refine wd_no 27 rfl (by kernel_rfl) rfl rfl rfl rfl ?_
          refine wd_no 28 rfl (by kernel_rfl) rfl rfl rfl rfl ?_
          refine wd_no 29 rfl (by kernel_rfl) rfl rfl rfl rfl ?_
          refine wd_no 30 rfl (by kernel_rfl) rfl rfl rfl rfl ?_
          refine wd_y 31 rfl (by kernel_rfl) rfl (y_pickF rfl rfl) ?_
          refine wd_nil (by kernel_rfl) ?_
          exact ⟨(Sub.cons rfl (Sub.cons rfl (Sub.cons rfl (Sub.cons rfl (Sub.cons rfl (Sub.cons rfl (Sub.cons rfl (Sub.cons rfl (Sub.cons rfl (Sub.to rfl (mb_f (by first | omega | exact ⟨fun h => ⟨(by assumption), h⟩, fun h => h.2⟩ | exact .inl (by assumption) | exact ⟨.inr, fun h => h.resolve_left (by assumption)⟩ | exact ⟨fun h => h.resolve_left (by assumption), .inr⟩ | simp [*])) Sub.nil)))))))))), fun _ h => h⟩
      refine w_if rfl (fun hc5 => ?_) (fun hc5 => ?_)
      ·
        refine w_reg ?_
        refine wr_y rfl (y_move rfl) ?_
        refine wr_y rfl (y_move rfl) ?_
        refine wr_y rfl (y_move rfl) ?_
        refine wr_y rfl (y_move rfl) ?_
        refine wr_y rfl (y_move rfl) ?_
        refine wr_y rfl (y_subI rfl rfl (by omega)) ?_
        refine wr_y rfl (y_index1 Tryz.underlying24 sz3 rfl rfl (rdr 1 rfl) (by omega) (by omega)) ?_
        refine wr_y rfl (y_ldI Tryz.underlying3 rfl rfl (rdr 1 rfl) (by omega) (by omega)) ?_
        refine wr_y rfl (y_index1 Tryz.underlying24 sz3 rfl rfl (rdr 0 rfl) (by first | omega | (have hm1 := joinO_mem (s := s) (n := n) (b := b) (p := p - 1) (by omega) (by omega); rw [← hD] at hm1; omega)) (by first | omega | (have hm1 := joinO_mem (s := s) (n := n) (b := b) (p := p - 1) (by omega) (by omega); rw [← hD] at hm1; omega))) ?_
        refine wr_y rfl (y_ldI Tryz.underlying3 rfl rfl (rdr 0 rfl) (by first | omega | (have hm1 := joinO_mem (s := s) (n := n) (b := b) (p := p - 1) (by omega) (by omega); rw [← hD] at hm1; omega)) (by first | omega | (have hm1 := joinO_mem (s := s) (n := n) (b := b) (p := p - 1) (by omega) (by omega); rw [← hD] at hm1; omega))) ?_
        refine wr_y rfl (y_index1 Tryz.underlying24 sz3 rfl rfl (rdr 0 rfl) (by omega) (by omega)) ?_
        refine wr_n (a_storeI 0 rfl sz3 rfl rfl (by omega) (by omega)) ?_
        rintro _ _ rfl
        refine wr_rows (R1 := [⟨3, 1, (some ⟨g_11, 0, none⟩), l.length, l.length, ints .i64 (upd (upd V (rd D p) p) (rd D p) (rd (upd V (rd D p) p) (rd D (p - 1)))), false⟩, ⟨3, 1, A_7, (((passK (iota s.length) (onL s n b) ((((l.length : Nat) : Int) + 1)).toNat)).length), c_8, ints .i64 D, false⟩, ⟨3, 1, A_3, (((iota s.length)).length), c_4, ints .i64 (passK (iota s.length) (onL s n b) ((((l.length : Nat) : Int) + 1)).toNat), false⟩, ⟨3, 1, (some ⟨g_2, 0, none⟩), l.length, l.length, ints .i64 (onL s n b), false⟩, ⟨3, 1, (some ⟨g_1, 0, none⟩), l.length, l.length, ints .i64 (iota s.length), false⟩]) rfl ?_
        refine wr_nil ?_
        refine w_reg ?_
        refine wr_y rfl (y_addI rfl rfl (by omega)) ?_
        refine wr_y rfl (y_move rfl) ?_
        refine wr_nil ?_
        exact ⟨p + 1, D, upd (upd V (rd D p) p) (rd D p) (rd (upd V (rd D p) p) (rd D (p - 1))), ⟨(by omega), (by omega), (by omega), (by rw [upd_length, upd_length]; exact hVl), (by subst hD; exact join_true hn hb hp0 (by omega) hVl hV (by rw [← hl, and_assoc]; exact hc5))⟩, (by omega), (Sub.cons rfl (Sub.cons rfl (Sub.cons rfl (Sub.cons rfl (Sub.cons rfl (Sub.cons rfl (Sub.cons rfl Sub.nil))))))), fun _ h => h⟩
      ·
        refine w_skip ?_
        refine w_reg ?_
        refine wr_y rfl (y_addI rfl rfl (by omega)) ?_
        refine wr_y rfl (y_move rfl) ?_
        refine wr_nil ?_
        exact ⟨p + 1, D, upd V (rd D p) p, ⟨(by omega), (by omega), (by omega), (by rw [upd_length]; exact hVl), (by subst hD; exact join_false hn hb hp0 (by omega) hVl hV (by rw [← hl, and_assoc]; exact hc5))⟩, (by omega), (Sub.cons rfl (Sub.cons rfl (Sub.cons rfl (Sub.cons rfl (Sub.cons rfl (Sub.cons rfl (Sub.cons rfl Sub.nil))))))), fun _ h => h⟩
    ·
      refine w_exit ?_
      refine w_seq ?_
      refine w_reg ?_
      refine wr_y rfl (y_move rfl) ?_
      refine wr_y rfl (y_move rfl) ?_
      refine wr_y rfl (y_assign rfl) ?_
      refine wr_y rfl (y_assign rfl) ?_
      refine wr_nil ?_
      refine w_retR (R1 := [⟨3, 1, (some ⟨g_11, 0, none⟩), l.length, l.length, ints .i64 V, false⟩, ⟨3, 1, A_7, (((passK (iota s.length) (onL s n b) ((((l.length : Nat) : Int) + 1)).toNat)).length), c_8, ints .i64 D, false⟩]) (fun _ h => h.sel [0, 1] (by decide) rfl) ?_
      refine ⟨_, _, rfl, rfl, ?_⟩
      have e2 : V = rkL s (n + b) := join_done hVl (fun q h1 h2 => by have := hV q h1 (by omega); rw [hD] at this; exact this)
      subst e2
      subst hD
      rw [hlen1, hll]
      exact ⟨_, _, _, _, rfl, rfl⟩

end Go.Proofs.YtipnciohgbjjhaaGreat

/-! ## G3 -/
namespace Go.Proofs.YtipnciohgbjjhaaGreat
open Go Go.Eng Go.Pure
set_option linter.unusedVariables false
set_option maxRecDepth 100000 in
theorem values_ct {B : Nat} {w0 : World} {R : List Row} {A_s : Option Addr} {n_s c_s : Nat} :
    Ct Tryz.prog 339 #[.slice A_s n_s c_s] B w0 R (fun v R' => ∃ g, v = .func (.func 363) #[] #[.pointer (some ⟨g, 0, none⟩)] ∧ R' = ⟨24, 1, some ⟨g, 0, none⟩, 1, 1, [.slice A_s n_s c_s], false⟩ :: R) := by
  refine fn1 Tryz.func339 rfl rfl rfl ?_
  refine w_seq ?_
  refine w_reg ?_
  refine wr_a rfl (a_box (sz := 1) rfl rfl) ?_
  rintro _ _ ⟨g, rfl, rfl⟩
  refine wr_y rfl (y_assign rfl) ?_
  refine wr_nil ?_
  refine w_seq ?_
  refine w_reg ?_
  refine wr_y rfl (y_makeFunc rfl rfl) ?_
  refine wr_y rfl (y_assign rfl) ?_
  refine wr_nil ?_
  refine w_ret ?_
  exact ⟨_, rfl, g, rfl, rfl⟩

set_option maxRecDepth 100000 in
theorem backward_ct {B : Nat} {w0 : World} {R : List Row} {A_s : Option Addr} {n_s c_s : Nat} :
    Ct Tryz.prog 97 #[.slice A_s n_s c_s] B w0 R (fun v R' => ∃ g, v = .func (.func 166) #[] #[.pointer (some ⟨g, 0, none⟩)] ∧ R' = ⟨24, 1, some ⟨g, 0, none⟩, 1, 1, [.slice A_s n_s c_s], false⟩ :: R) := by
  refine fn1 Tryz.func97 rfl rfl rfl ?_
  refine w_seq ?_
  refine w_reg ?_
  refine wr_a rfl (a_box (sz := 1) rfl rfl) ?_
  rintro _ _ ⟨g, rfl, rfl⟩
  refine wr_y rfl (y_assign rfl) ?_
  refine wr_nil ?_
  refine w_seq ?_
  refine w_reg ?_
  refine wr_y rfl (y_makeFunc rfl rfl) ?_
  refine wr_y rfl (y_assign rfl) ?_
  refine wr_nil ?_
  refine w_ret ?_
  exact ⟨_, rfl, g, rfl, rfl⟩

theorem take_one {l : List Int} {k : Nat} (h : k < l.length) : l.take k ++ [rd l (k : Int)] = l.take (k + 1) := by
  rw [List.take_add_one, List.getElem?_eq_getElem h, rd, Int.toNat_natCast, List.getD_eq_getElem?_getD, List.getElem?_eq_getElem h]; rfl
set_option maxRecDepth 100000 in
theorem appendSeq_ct {w : World} {A_s : Option Addr} {n_s c_s Bs : Nat} {s : List Int} (h_s : Rd w A_s n_s c_s 1 (ints .i64 s)) (h_b : Rd w (some ⟨Bs, 0, none⟩) 1 1 1 [.slice A_s n_s c_s]) (hN : s.length ≤ 1000000) :
    Ct Tryz.prog 374 #[.slice none 0 0, .func (.func 363) #[] #[.pointer (some ⟨Bs, 0, none⟩)]] w.heap.size w [] (fun v R' => ∃ A c, v = .slice A (s).length c ∧ R' = [⟨3, 1, A, (s).length, c, ints .i64 (s), false⟩]) := by
  refine fnV Tryz.func374 rfl rfl ?_
  obtain rfl := h_s.lenI
  refine v_seqW ?_
  refine w_reg ?_
  refine wr_a rfl (a_box (sz := 1) rfl rfl) ?_
  rintro _ _ ⟨g_1, rfl, rfl⟩
  refine wr_sub (R1 := [⟨3, 1, none, 0, 0, ints .i64 ([]), false⟩, ⟨24, 1, (some ⟨g_1, 0, none⟩), 1, 1, [.slice none 0 0], false⟩]) (Sub.refl _) (fun _ h => h.nil 3 1) ?_
  refine wr_rows (R1 := [⟨3, 1, none, 0, 0, ints .i64 ([]), false⟩, ⟨24, 1, (some ⟨g_1, 0, none⟩), 1, 1, [.slice none 0 0], false⟩]) rfl ?_
  refine wr_y rfl (y_assign rfl) ?_
  refine wr_nil ?_
  refine v_seq ?_
  refine v_seqW ?_
  refine w_reg ?_
  refine wr_y rfl (y_move rfl) ?_
  refine wr_nil ?_
  refine v_block ?_
  refine v_range4 rfl en363 (vals0_ints (A := A_s) (c := c_s) (zs := s)) rfl (fun _ => rfl) Gd.refl (fun (kr : Nat) (A1 : Option Addr) (n1 : Nat) (c1 : Nat) (acc : List Int) => [⟨3, 1, A1, n1, c1, ints .i64 acc, false⟩, ⟨24, 1, (some ⟨g_1, 0, none⟩), 1, 1, [.slice A1 n1 c1], false⟩]) (fun (kr : Nat) (A1 : Option Addr) (n1 : Nat) (c1 : Nat) (acc : List Int) => (n1 = acc.length) ∧ (acc = s.take kr)) ?_ ?_ ?_ ?_
  ·
    exact ⟨none, 0, 0, [], ⟨(rfl), (List.take_zero.symm)⟩, fun _ h => h⟩
  ·
    intro kr A1 n1 c1 acc w ⟨hn1, hacc⟩ hw
    exact ⟨(h_b.c _) w hw, (h_s.c _) w hw⟩
  ·
    intro lr kr A1 n1 c1 acc WW1 hkr ⟨hn1, hacc⟩ hbW1
    have hl1 : acc.length ≤ s.length := by rw [hacc, List.length_take]; omega
    refine w_reg ?_
    refine wr_y rfl (y_assign rfl) ?_
    refine wr_nil ?_
    intro WW13 hbW13
    refine w_block ?_
    refine w_reg ?_
    refine wr_y rfl (y_ldIn (rdR 1 (r := ⟨24, 1, (some ⟨g_1, 0, none⟩), 1, 1, [.slice A1 n1 c1], false⟩) rfl) Tryz.underlying24 rfl rfl rfl) ?_
    refine wr_y rfl (y_move rfl) ?_
    refine wr_a rfl (a_litI .i64 [rd s (kr : Int)] Tryz.underlying24 zs3 rfl rfl rfl) ?_
    rintro _ _ ⟨g_4, rfl, rfl⟩
    refine wr_a rfl (a_appendI 1 rfl Tryz.underlying24 zb3 rfl rfl rfl (rdr 0 rfl) (by omega)) ?_
    rintro _ _ ⟨A_5, c_6, rfl, rfl⟩
    refine wr_rows (R1 := [⟨3, 1, (some ⟨g_4, 0, none⟩), 1, 1, ints .i64 ([rd s (kr : Int)]), false⟩, ⟨3, 1, A_5, (n1 + 1), c_6, ints .i64 (acc ++ ([rd s (kr : Int)])), false⟩, ⟨24, 1, (some ⟨g_1, 0, none⟩), 1, 1, [.slice A1 n1 c1], false⟩]) rfl ?_
    refine wr_as (v := .slice A_5 (n1 + 1) c_6) rfl ?_
    refine wr_n (a_storeAt 2 rfl rfl rfl sz24 rfl rfl rfl rfl (Nat.le_of_ble_eq_true rfl)) ?_
    rintro _ _ rfl
    refine wr_rows (R1 := [⟨3, 1, (some ⟨g_4, 0, none⟩), 1, 1, ints .i64 ([rd s (kr : Int)]), false⟩, ⟨3, 1, A_5, (n1 + 1), c_6, ints .i64 (acc ++ ([rd s (kr : Int)])), false⟩, ⟨24, 1, (some ⟨g_1, 0, none⟩), 1, 1, [.slice A_5 (n1 + 1) c_6], false⟩]) rfl ?_
    refine wr_nil ?_
    exact ⟨A_5, (n1 + 1), c_6, acc ++ ([rd s (kr : Int)]), ⟨(by rw [List.length_append, hn1]; try rfl), (by rw [hacc]; exact take_one hkr)⟩, fun _ => fun _ h => h.sel [1, 2] (by decide) rfl⟩
  intro WW15 DW1 A1 n1 c1 acc ⟨hn1, hacc⟩ hbW15 hGW15
  refine v_goB ?_
  refine v_go ?_
  refine v_w ?_
  refine w_seq ?_
  refine w_reg ?_
  refine wr_y rfl (y_ldIn (rdR 1 (r := ⟨24, 1, (some ⟨g_1, 0, none⟩), 1, 1, [.slice A1 n1 c1], false⟩) rfl) Tryz.underlying24 rfl rfl rfl) ?_
  refine wr_y rfl (y_assign rfl) ?_
  refine wr_nil ?_
  refine w_retR (R1 := [⟨3, 1, A1, n1, c1, ints .i64 acc, false⟩]) (fun _ h => h.sel [0] (by decide) rfl) ?_
  refine fin1 rfl hGW15 ⟨_, rfl, ?_⟩
  rw [List.take_length] at hacc
  subst hn1
  subst hacc
  exact ⟨_, _, rfl, rfl⟩

set_option maxRecDepth 100000 in
theorem collect_ct {w : World} {A_s : Option Addr} {n_s c_s Bs : Nat} {s : List Int} (h_s : Rd w A_s n_s c_s 1 (ints .i64 s)) (h_b : Rd w (some ⟨Bs, 0, none⟩) 1 1 1 [.slice A_s n_s c_s]) (hN : s.length ≤ 1000000) :
    Ct Tryz.prog 361 #[.func (.func 363) #[] #[.pointer (some ⟨Bs, 0, none⟩)]] w.heap.size w [] (fun v R' => ∃ A c, v = .slice A (s).length c ∧ R' = [⟨3, 1, A, (s).length, c, ints .i64 (s), false⟩]) := by
  refine fn1 Tryz.func361 rfl rfl rfl ?_
  refine w_seq ?_
  refine w_reg ?_
  refine wr_y rfl (y_assign rfl) ?_
  refine wr_nil ?_
  refine w_seq ?_
  refine w_reg ?_
  refine wr_y rfl (y_move rfl) ?_
  refine wr_a rfl (a_callF en374 rfl (Ct.fresh (fun w hw => appendSeq_ct ((h_s.c _) w hw) ((h_b.c _) w hw) (by omega)))) ?_
  rintro _ _ ⟨_, rfl, A_1, c_2, rfl, rfl⟩
  refine wr_y rfl (y_assign rfl) ?_
  refine wr_nil ?_
  refine w_retR (R1 := [⟨3, 1, A_1, s.length, c_2, ints .i64 s, false⟩]) (fun _ h => h.sel [0] (by decide) rfl) ?_
  refine ⟨_, rfl, ?_⟩
  exact ⟨_, _, rfl, rfl⟩

set_option maxRecDepth 100000 in
theorem sorted_ct {w : World} {A_s : Option Addr} {n_s c_s Bs : Nat} {s : List Int} (h_s : Rd w A_s n_s c_s 1 (ints .i64 s)) (h_b : Rd w (some ⟨Bs, 0, none⟩) 1 1 1 [.slice A_s n_s c_s]) (hN : s.length ≤ 1000000) :
    Ct Tryz.prog 338 #[.func (.func 363) #[] #[.pointer (some ⟨Bs, 0, none⟩)]] w.heap.size w [] (fun v R' => ∃ A c, v = .slice A (sortL s).length c ∧ R' = [⟨3, 1, A, (sortL s).length, c, ints .i64 (sortL s), false⟩]) := by
  refine fn1 Tryz.func338 rfl rfl rfl ?_
  refine w_seq ?_
  refine w_reg ?_
  refine wr_y rfl (y_assign rfl) ?_
  refine wr_nil ?_
  refine w_seq ?_
  refine w_reg ?_
  refine wr_y rfl (y_move rfl) ?_
  refine wr_a rfl (a_callF en361 rfl (Ct.fresh (fun w hw => collect_ct ((h_s.c _) w hw) ((h_b.c _) w hw) (by omega)))) ?_
  rintro _ _ ⟨_, rfl, A_1, c_2, rfl, rfl⟩
  refine wr_y rfl (y_assign rfl) ?_
  refine wr_nil ?_
  refine w_seq ?_
  refine w_reg ?_
  refine wr_y rfl (y_move rfl) ?_
  refine wr_a rfl (a_callF en362 rfl (sort_ints Tryz.slices_Sort_int Tryz.slices_Sort_int_none 0 rfl (by omega))) ?_
  rintro _ _ ⟨rfl, rfl⟩
  refine wr_rows (R1 := [⟨3, 1, A_1, s.length, c_2, ints .i64 (sortL s), false⟩]) rfl ?_
  refine wr_nil ?_
  refine w_seq ?_
  refine w_reg ?_
  refine wr_y rfl (y_move rfl) ?_
  refine wr_y rfl (y_assign rfl) ?_
  refine wr_nil ?_
  refine w_retR (R1 := [⟨3, 1, A_1, s.length, c_2, ints .i64 (sortL s), false⟩]) (fun _ h => h.sel [0] (by decide) rfl) ?_
  refine ⟨_, rfl, ?_⟩
  have e : s.length = (sortL s).length := (sortL_perm s).length_eq.symm
  rw [e]
  exact ⟨_, _, rfl, rfl⟩

end Go.Proofs.YtipnciohgbjjhaaGreat

/-! ## G4 -/
namespace Go.Proofs.YtipnciohgbjjhaaGreat
open Go Go.Eng Go.Pure
set_option linter.unusedVariables false
theorem rkL_of {s V : List Int} {h : Nat} (hl : V.length = s.length) (hV : ∀ j : Int, 0 ≤ j → j < s.length → rd V j = rkS s h j.toNat) : V = rkL s h :=
  list_ext_rd (hl.trans (rkL_len s h).symm) fun j h1 h2 => by rw [rd_rkL h1 (by omega)]; exact hV j h1 (by omega)
set_option maxRecDepth 100000 in
theorem ranks1_ct {w : World} {A_s : Option Addr} {n_s c_s : Nat} {s : List Int} (h_s : Rd w A_s n_s c_s 1 (ints .i64 s)) (hN : s.length ≤ 100000) :
    Ct Tryz.prog 320 #[.slice A_s n_s c_s] w.heap.size w [] (fun v R' => ∃ A c, v = .slice A (s.length) c ∧ R' = [⟨3, 1, A, s.length, c, ints .i64 (rkL s 1), false⟩]) := by
  obtain rfl := h_s.lenI
  refine fn1 Tryz.func320 rfl rfl rfl ?_
  have m_s := h_s.max
  refine w_seq ?_
  refine w_reg ?_
  refine wr_y rfl (y_assign rfl) ?_
  refine wr_nil ?_
  refine w_seq ?_
  refine w_reg ?_
  refine wr_y rfl (y_move rfl) ?_
  refine wr_a rfl (a_callF en339 rfl (values_ct)) ?_
  rintro _ _ ⟨g_1, rfl, rfl⟩
  refine wr_a rfl (a_callF en338 rfl (Ct.fresh (fun w hw => sorted_ct ((h_s.c _) w hw) ((rdR 0 (r := ⟨24, 1, (some ⟨g_1, 0, none⟩), 1, 1, [.slice A_s s.length c_s], false⟩) rfl) w hw) (by omega)))) ?_
  rintro _ _ ⟨_, rfl, A_3, c_4, rfl, rfl⟩
  refine wr_y rfl (y_assign rfl) ?_
  refine wr_nil ?_
  refine w_seq ?_
  refine w_reg ?_
  refine wr_y rfl (y_move rfl) ?_
  refine wr_y rfl (y_len Tryz.underlying24 rfl) ?_
  refine wr_a rfl (a_makeN Tryz.underlying24 zb3 rfl rfl (by omega) (by omega) (by omega)) ?_
  rintro _ _ ⟨g_7, rfl, rfl⟩
  refine wr_rows (R1 := [⟨3, 1, (some ⟨g_7, 0, none⟩), s.length, s.length, ints .i64 (List.replicate s.length (0 : Int)), false⟩, ⟨3, 1, A_3, (sortL s).length, c_4, ints .i64 (sortL s), false⟩, ⟨24, 1, (some ⟨g_1, 0, none⟩), 1, 1, [.slice A_s s.length c_s], false⟩]) rfl ?_
  refine wr_as (v := .slice (some ⟨g_7, 0, none⟩) s.length s.length) rfl ?_
  refine wr_y rfl (y_assign rfl) ?_
  refine wr_nil ?_
  refine w_seq ?_
  refine w_seq ?_
  refine w_reg ?_
  refine wr_y rfl (y_move rfl) ?_
  refine wr_y rfl (y_len Tryz.underlying24 rfl) ?_
  refine wr_y rfl (y_move rfl) ?_
  refine wr_nil ?_
  refine w_block ?_
  refine w_loop2 (fun (i : Int) (V : List Int) => [(3, .slice A_3 ((sortL s).length) c_4), (4, .slice (some ⟨g_7, 0, none⟩) s.length s.length), (13, .slice A_s s.length c_s), (14, .int .i64 ((s.length : Nat) : Int)), (15, .int .i64 i)]) (fun (i : Int) (V : List Int) => [⟨3, 1, (some ⟨g_7, 0, none⟩), s.length, s.length, ints .i64 V, false⟩, ⟨3, 1, A_3, (sortL s).length, c_4, ints .i64 (sortL s), false⟩, ⟨24, 1, (some ⟨g_1, 0, none⟩), 1, 1, [.slice A_s s.length c_s], false⟩]) (fun (i : Int) (V : List Int) => (0 ≤ i) ∧ (i ≤ s.length) ∧ (V.length = s.length) ∧ (∀ j : Int, 0 ≤ j → j < i → rd V j = rkS s 1 j.toNat)) (fun (i : Int) (V : List Int) => (s.length - i).toNat) ?_ ?_
  ·
    exact ⟨0, List.replicate s.length (0 : Int), ⟨(by omega), (by omega), (by rw [List.length_replicate]), (fun j h1 h2 => by omega)⟩, (Sub.cons rfl (Sub.cons rfl (Sub.cons rfl (Sub.cons rfl (Sub.cons rfl Sub.nil))))), fun _ h => h⟩
  intro i V ⟨hi0, hi1, hVl, hV⟩
  refine w_seq ?_
  refine w_reg ?_
  refine wr_y rfl (y_lt rfl rfl) ?_
  refine wr_nil ?_
  refine w_seq ?_
  refine w_if rfl (fun hc1 => ?_) (fun hc1 => ?_)
  ·
    refine w_skip ?_
    refine w_seq ?_
    refine w_block ?_
    refine w_seq ?_
    refine w_reg ?_
    refine wr_y rfl (y_move rfl) ?_
    refine wr_y rfl (y_index1 Tryz.underlying24 sz3 rfl rfl (h_s.c _) (by omega) (by omega)) ?_
    refine wr_y rfl (y_ldI Tryz.underlying3 rfl rfl (h_s.c _) (by omega) (by omega)) ?_
    refine wr_y rfl (y_assign rfl) ?_
    refine wr_y rfl (y_assign rfl) ?_
    refine wr_nil ?_
    refine w_reg ?_
    refine wr_y rfl (y_move rfl) ?_
    refine wr_y rfl (y_move rfl) ?_
    refine wr_y rfl (y_move rfl) ?_
    refine wr_y rfl (y_move rfl) ?_
    refine wr_a rfl (a_callF en349 rfl (find_ints Tryz.slices_BinarySearch_int Tryz.slices_BinarySearch_int_empty 1 rfl (by rw [(sortL_perm s).length_eq]; omega) (sortL_sorted s))) ?_
    rintro _ _ ⟨rfl, rfl⟩
    refine wr_y rfl (y_move rfl) ?_
    refine wr_y rfl (y_extract rfl rfl) ?_
    refine wr_y rfl (y_extract rfl rfl) ?_
    refine wr_y rfl (y_index1 Tryz.underlying24 sz3 rfl rfl (rdr 0 rfl) (by omega) (by omega)) ?_
    refine wr_n (a_storeI 0 rfl sz3 rfl rfl (by omega) (by omega)) ?_
    rintro _ _ rfl
    refine wr_rows (R1 := [⟨3, 1, (some ⟨g_7, 0, none⟩), s.length, s.length, ints .i64 (upd V i (((sortL s).countP fun y => decide (y < rd s i) : Nat) : Int)), false⟩, ⟨3, 1, A_3, (sortL s).length, c_4, ints .i64 (sortL s), false⟩, ⟨24, 1, (some ⟨g_1, 0, none⟩), 1, 1, [.slice A_s s.length c_s], false⟩]) rfl ?_
    refine wr_nil ?_
    refine w_reg ?_
    refine wr_y rfl (y_addI rfl rfl (by omega)) ?_
    refine wr_y rfl (y_move rfl) ?_
    refine wr_nil ?_
    exact ⟨i + 1, upd V i (((sortL s).countP fun y => decide (y < rd s i) : Nat) : Int), ⟨(by omega), (by omega), (by rw [upd_length]; exact hVl), (fill_step (f := fun j => (rkS s 1 j.toNat : Int)) hi0 (by omega) hV (by rw [rk_one (by omega), (sortL_perm s).countP_eq]; rfl))⟩, (by omega), (Sub.cons rfl (Sub.cons rfl (Sub.cons rfl (Sub.cons rfl (Sub.cons rfl Sub.nil))))), fun _ h => h⟩
  ·
    refine w_exit ?_
    refine w_seq ?_
    refine w_reg ?_
    refine wr_y rfl (y_move rfl) ?_
    refine wr_y rfl (y_assign rfl) ?_
    refine wr_nil ?_
    refine w_retR (R1 := [⟨3, 1, (some ⟨g_7, 0, none⟩), s.length, s.length, ints .i64 V, false⟩]) (fun _ h => h.sel [0] (by decide) rfl) ?_
    refine ⟨_, rfl, ?_⟩
    obtain rfl : V = rkL s 1 := rkL_of hVl (fun j h1 h2 => hV j h1 (by omega))
    exact ⟨_, _, rfl, rfl⟩

set_option maxRecDepth 100000 in
set_option maxHeartbeats 400000 in
theorem ranks15_ct {w : World} {A_s : Option Addr} {n_s c_s : Nat} {s : List Int} {h : Int} (h_s : Rd w A_s n_s c_s 1 (ints .i64 s)) (h0 : 0 ≤ h) (hN : s.length ≤ 100000) :
    Ct Tryz.prog 269 #[.slice A_s n_s c_s, .int .i64 h] w.heap.size w [] (fun v R' => ∃ A c, v = .slice A (s.length) c ∧ R' = [⟨3, 1, A, s.length, c, ints .i64 (rkL s h.toNat), false⟩]) := by
  obtain rfl := h_s.lenI
  refine fn1 Tryz.func269 rfl rfl rfl ?_
  have m_s := h_s.max
  refine w_seq ?_
  refine w_reg ?_
  refine wr_y rfl (y_assign rfl) ?_
  refine wr_nil ?_
  refine w_seq ?_
  refine w_seq ?_
  refine w_reg ?_
  refine wr_y rfl (y_move rfl) ?_
  refine wr_y rfl (y_lt rfl rfl) ?_
  refine wr_y rfl (y_move rfl) ?_
  refine wr_mid 4 [(0, .slice A_s s.length c_s), (1, .int .i64 h), (14, .bool (decide ((h < 0) ∨ (100000 < ((s.length : Nat) : Int)))))] [] ?_ ?_
  ·
    refine wr_case 10 rfl (fun hc1 => ?_) (fun hc1 => ?_)
    ·
      refine wr_no rfl rfl rfl rfl ?_
      refine wr_no rfl rfl rfl rfl ?_
      refine wr_no rfl rfl rfl rfl ?_
      refine wr_y rfl (y_pickT rfl rfl) ?_
      refine wr_nil ?_
      exact ⟨(Sub.cons rfl (Sub.cons rfl (Sub.to rfl (mb_t (by first | omega | exact ⟨fun h => ⟨(by assumption), h⟩, fun h => h.2⟩ | exact .inl (by assumption) | exact ⟨.inr, fun h => h.resolve_left (by assumption)⟩ | exact ⟨fun h => h.resolve_left (by assumption), .inr⟩ | simp [*])) Sub.nil))), fun _ h => h⟩
    ·
      refine wr_yes rfl rfl ?_
      refine wr_y rfl (y_move rfl) ?_
      refine wr_yes rfl rfl ?_
      refine wr_y rfl (y_len Tryz.underlying24 rfl) ?_
      refine wr_yes rfl rfl ?_
      refine wr_y rfl (y_gt rfl rfl) ?_
      refine wr_y rfl (y_pickF rfl rfl) ?_
      refine wr_nil ?_
      exact ⟨(Sub.cons rfl (Sub.cons rfl (Sub.to rfl (mb (by first | omega | exact ⟨fun h => ⟨(by assumption), h⟩, fun h => h.2⟩ | exact .inl (by assumption) | exact ⟨.inr, fun h => h.resolve_left (by assumption)⟩ | exact ⟨fun h => h.resolve_left (by assumption), .inr⟩ | simp [*])) Sub.nil))), fun _ h => h⟩
  refine wr_setF 14 rfl (by omega) ?_
  refine wr_nil ?_
  refine w_false rfl ?_
  refine w_skip ?_
  refine w_seq ?_
  refine w_reg ?_
  refine wr_y rfl (y_move rfl) ?_
  refine wr_y rfl (y_len Tryz.underlying24 rfl) ?_
  refine wr_a rfl (a_makeN Tryz.underlying24 zb3 rfl rfl (by omega) (by omega) (by omega)) ?_
  rintro _ _ ⟨g_2, rfl, rfl⟩
  refine wr_rows (R1 := [⟨3, 1, (some ⟨g_2, 0, none⟩), s.length, s.length, ints .i64 (List.replicate s.length (0 : Int)), false⟩]) rfl ?_
  refine wr_as (v := .slice (some ⟨g_2, 0, none⟩) s.length s.length) rfl ?_
  refine wr_y rfl (y_assign rfl) ?_
  refine wr_nil ?_
  refine w_seq ?_
  refine w_seq ?_
  refine w_reg ?_
  refine wr_y rfl (y_move rfl) ?_
  refine wr_y rfl (y_eq rfl rfl) ?_
  refine wr_nil ?_
  refine w_if rfl (fun hc2 => ?_) (fun hc2 => ?_)
  ·
    refine w_seq ?_
    refine w_reg ?_
    refine wr_y rfl (y_move rfl) ?_
    refine wr_y rfl (y_assign rfl) ?_
    refine wr_nil ?_
    refine w_retR (R1 := [⟨3, 1, (some ⟨g_2, 0, none⟩), s.length, s.length, ints .i64 (List.replicate s.length (0 : Int)), false⟩]) (fun _ h => h.sel [0] (by decide) rfl) ?_
    refine ⟨_, rfl, ?_⟩
    have e : h.toNat = 0 := by omega
    rw [e, rkL_zero]
    exact ⟨_, _, rfl, rfl⟩
  ·
    refine w_skip ?_
    refine w_seq ?_
    refine w_reg ?_
    refine wr_y rfl (y_move rfl) ?_
    refine wr_a rfl (a_callF en320 rfl (Ct.fresh (fun w hw => ranks1_ct ((h_s.c _) w hw) (by first | assumption | omega | decide)))) ?_
    rintro _ _ ⟨_, rfl, A_4, c_5, rfl, rfl⟩
    refine wr_y rfl (y_assign rfl) ?_
    refine wr_nil ?_
    refine w_seq ?_
    refine w_reg ?_
    refine wr_y rfl (y_move rfl) ?_
    refine wr_y rfl (y_move rfl) ?_
    refine wr_y rfl (y_len Tryz.underlying24 rfl) ?_
    refine wr_y rfl (y_min rfl rfl) ?_
    refine wr_y rfl (y_assign rfl) ?_
    refine wr_nil ?_
    refine w_seq ?_
    refine w_seq ?_
    refine w_reg ?_
    refine wr_y rfl (y_assign rfl) ?_
    refine wr_nil ?_
    refine w_block ?_
    refine w_loop4 (fun (n : Int) (A1 : Option Addr) (c1 : Nat) (L : List Int) => [(1, .int .i64 (min h ((s.length : Nat) : Int))), (5, .slice A1 s.length c1), (6, .int .i64 n)]) (fun (n : Int) (A1 : Option Addr) (c1 : Nat) (L : List Int) => [⟨3, 1, A1, s.length, c1, ints .i64 L, false⟩, ⟨3, 1, (some ⟨g_2, 0, none⟩), s.length, s.length, ints .i64 (List.replicate s.length (0 : Int)), false⟩]) (fun (n : Int) (A1 : Option Addr) (c1 : Nat) (L : List Int) => (1 ≤ n) ∧ (n = 1 ∨ n ≤ min h (s.length : Int)) ∧ (L = rkL s n.toNat)) (fun (n : Int) (A1 : Option Addr) (c1 : Nat) (L : List Int) => (min h (s.length : Int) - n).toNat) ?_ ?_
    ·
      exact ⟨1, A_4, c_5, rkL s 1, ⟨(by omega), (by omega), (rfl)⟩, (Sub.cons rfl (Sub.cons rfl (Sub.cons rfl Sub.nil))), fun _ h => h⟩
    intro n A1 c1 L ⟨hn1, hn2, hL⟩
    refine w_seq ?_
    refine w_seq ?_
    refine w_reg ?_
    refine wr_y rfl (y_move rfl) ?_
    refine wr_y rfl (y_move rfl) ?_
    refine wr_y rfl (y_lt rfl rfl) ?_
    refine wr_nil ?_
    refine w_if rfl (fun hc3 => ?_) (fun hc3 => ?_)
    ·
      refine w_skip ?_
      refine w_block ?_
      refine w_seq ?_
      refine w_reg ?_
      refine wr_y rfl (y_move rfl) ?_
      refine wr_y rfl (y_move rfl) ?_
      refine wr_y rfl (y_move rfl) ?_
      refine wr_y rfl (y_subI rfl rfl (by omega)) ?_
      refine wr_y rfl (y_min rfl rfl) ?_
      refine wr_y rfl (y_assign rfl) ?_
      refine wr_nil ?_
      refine w_seq ?_
      refine w_reg ?_
      refine wr_y rfl (y_move rfl) ?_
      refine wr_y rfl (y_move rfl) ?_
      refine wr_a rfl (a_callF en321 rfl (Ct.fresh (fun w hw => joined_ct (s := s) (n := n.toNat) (b := (min n (min h (s.length : Int) - n)).toNat) ((rdr 0 rfl) w hw) hL (by omega) (by omega) (by omega) ⟨hN, by omega⟩))) ?_
      rintro _ _ ⟨_, rfl, A_8, c_9, A_10, c_11, rfl, rfl⟩
      refine wr_y rfl (y_move rfl) ?_
      refine wr_y rfl (y_extract rfl rfl) ?_
      refine wr_y rfl (y_extract rfl rfl) ?_
      refine wr_y rfl (y_assign rfl) ?_
      refine wr_nil ?_
      refine w_reg ?_
      refine wr_y rfl (y_move rfl) ?_
      refine wr_y rfl (y_move rfl) ?_
      refine wr_y rfl (y_addI rfl rfl (by omega)) ?_
      refine wr_y rfl (y_assign rfl) ?_
      refine wr_nil ?_
      exact ⟨n + (min n ((min h ((s.length : Nat) : Int)) - n)), A_8, c_9, rkL s (n.toNat + (min n (min h (s.length : Int) - n)).toNat), ⟨(by omega), (by omega), (by congr 1; omega)⟩, (by omega), (Sub.cons rfl (Sub.cons rfl (Sub.cons rfl Sub.nil))), fun _ h => h.sel [0, 3] (by decide) rfl⟩
    ·
      refine w_exit ?_
      refine w_seq ?_
      refine w_reg ?_
      refine wr_y rfl (y_move rfl) ?_
      refine wr_y rfl (y_assign rfl) ?_
      refine wr_nil ?_
      refine w_retR (R1 := [⟨3, 1, A1, s.length, c1, ints .i64 L, false⟩]) (fun _ h => h.sel [0] (by decide) rfl) ?_
      refine ⟨_, rfl, ?_⟩
      have e : rkL s n.toNat = rkL s h.toNat := by
        rcases Nat.eq_zero_or_pos s.length with z | z
        · exact rkL_none z _ _
        · rcases Int.lt_or_le h s.length with a | a
          · rw [show n.toNat = h.toNat by omega]
          · rw [rk_cap (h := h.toNat) (by omega), show n.toNat = s.length by omega]
      rw [hL, e]
      exact ⟨_, _, rfl, rfl⟩

set_option maxRecDepth 100000 in
theorem ints15_ct {w : World} {A_s : Option Addr} {n_s c_s : Nat} {s : List Int} {k : Int} (h_s : Rd w A_s n_s c_s 1 (ints .i64 s)) (hok : (0 ≤ k ∧ k ≤ 1048576) ∧ ∀ x ∈ s, 0 ≤ x ∧ x < k) (hN : s.length ≤ 100000) :
    Ct Tryz.prog 202 #[.slice A_s n_s c_s, .int .i64 k] w.heap.size w [] (fun v R' => ∃ (out : List Int) (A : Option Addr) (c : Nat), v = .tuple #[.slice A s.length c, .int .i64 0] ∧ out.length = s.length ∧ (∀ q : Nat, q < s.length → rd out (rkS s s.length q) = q) ∧ R' = [⟨3, 1, A, s.length, c, ints .i64 out, false⟩]) := by
  obtain rfl := h_s.lenI
  refine fn2 Tryz.func202 rfl rfl rfl ?_
  have m_s := h_s.max
  refine w_seq ?_
  refine w_reg ?_
  refine wr_y rfl (y_assign rfl) ?_
  refine wr_y rfl (y_assign rfl) ?_
  refine wr_nil ?_
  refine w_seq ?_
  refine w_seq ?_
  refine w_reg ?_
  refine wr_y rfl (y_move rfl) ?_
  refine wr_y rfl (y_len Tryz.underlying24 rfl) ?_
  refine wr_y rfl (Yl.f (y_gt rfl rfl) (by omega)) ?_
  refine wr_nil ?_
  refine w_false rfl ?_
  refine w_skip ?_
  refine w_seq ?_
  refine w_seq ?_
  refine w_reg ?_
  refine wr_y rfl (y_move rfl) ?_
  refine wr_y rfl (y_move rfl) ?_
  refine wr_a rfl (a_callF en235 rfl (Ct.fresh (fun w hw => countsOk_ct ((h_s.c _) w hw) (by first | assumption | omega | decide)))) ?_
  rintro _ _ ⟨_, rfl, A_1, c_2, rfl, rfl⟩
  refine wr_y rfl (y_move rfl) ?_
  refine wr_y rfl (y_extract rfl rfl) ?_
  refine wr_y rfl (y_extract rfl rfl) ?_
  refine wr_y rfl (y_assign rfl) ?_
  refine wr_y rfl (y_assign rfl) ?_
  refine wr_nil ?_
  refine w_seq ?_
  refine w_reg ?_
  refine wr_y rfl (y_move rfl) ?_
  refine wr_y rfl (y_not rfl) ?_
  refine wr_nil ?_
  refine w_false rfl ?_
  refine w_skip ?_
  refine w_seq ?_
  refine w_reg ?_
  refine wr_y rfl (y_move rfl) ?_
  refine wr_y rfl (y_len Tryz.underlying24 rfl) ?_
  refine wr_a rfl (a_makeN Tryz.underlying24 zb3 rfl rfl (by omega) (by omega) (by omega)) ?_
  rintro _ _ ⟨g_4, rfl, rfl⟩
  refine wr_rows (R1 := [⟨3, 1, (some ⟨g_4, 0, none⟩), s.length, s.length, ints .i64 (List.replicate s.length (0 : Int)), false⟩, ⟨3, 1, A_1, ((k).toNat), c_2, ints .i64 (cntV s k), false⟩]) rfl ?_
  refine wr_as (v := .slice (some ⟨g_4, 0, none⟩) s.length s.length) rfl ?_
  refine wr_y rfl (y_assign rfl) ?_
  refine wr_nil ?_
  refine w_seq ?_
  refine w_seq ?_
  refine w_reg ?_
  refine wr_y rfl (y_move rfl) ?_
  refine wr_y rfl (y_move rfl) ?_
  refine wr_y rfl (y_len Tryz.underlying24 rfl) ?_
  refine wr_a rfl (a_callF en269 rfl (Ct.fresh (fun w hw => ranks15_ct ((h_s.c _) w hw) (by omega) (by first | assumption | omega | decide)))) ?_
  rintro _ _ ⟨_, rfl, A_5, c_6, rfl, rfl⟩
  refine wr_y rfl (y_len Tryz.underlying24 rfl) ?_
  refine wr_y rfl (y_move rfl) ?_
  refine wr_nil ?_
  refine w_block ?_
  refine w_loop2 (fun (i : Int) (V : List Int) => [(8, .slice (some ⟨g_4, 0, none⟩) s.length s.length), (28, .slice A_5 ((s).length) c_6), (29, .int .i64 (((s).length : Nat) : Int)), (30, .int .i64 i)]) (fun (i : Int) (V : List Int) => [⟨3, 1, A_5, ((s).length), c_6, ints .i64 (rkL s (((s.length : Nat) : Int)).toNat), false⟩, ⟨3, 1, (some ⟨g_4, 0, none⟩), s.length, s.length, ints .i64 V, false⟩, ⟨3, 1, A_1, ((k).toNat), c_2, ints .i64 (cntV s k), false⟩]) (fun (i : Int) (V : List Int) => (0 ≤ i) ∧ (i ≤ s.length) ∧ (V.length = s.length) ∧ (∀ q : Nat, (q : Int) < i → rd V (rkS s s.length q) = q)) (fun (i : Int) (V : List Int) => (s.length - i).toNat) ?_ ?_
  ·
    exact ⟨0, List.replicate s.length (0 : Int), ⟨(by omega), (by omega), (by rw [List.length_replicate]), (fun q h => by omega)⟩, (Sub.cons rfl (Sub.cons rfl (Sub.cons rfl (Sub.cons rfl Sub.nil)))), fun _ h => h⟩
  intro i V ⟨hi0, hi1, hVl, hV⟩
  refine w_seq ?_
  refine w_reg ?_
  refine wr_y rfl (y_lt rfl rfl) ?_
  refine wr_nil ?_
  refine w_seq ?_
  refine w_if rfl (fun hc1 => ?_) (fun hc1 => ?_)
  ·
    have hr : rd (rkL s ((s.length : Nat) : Int).toNat) i = (rkS s s.length i.toNat : Int) := by rw [Int.toNat_natCast]; exact rd_rkL hi0 (by omega)
    have ht := rkS_top (s := s) (h := s.length) (i := i.toNat) (by omega)
    refine w_skip ?_
    refine w_seq ?_
    refine w_block ?_
    refine w_seq ?_
    refine w_reg ?_
    refine wr_y rfl (y_move rfl) ?_
    refine wr_y rfl (y_index1 Tryz.underlying24 sz3 rfl rfl (rdr 0 rfl) (by omega) (by omega)) ?_
    refine wr_y rfl (y_ldI Tryz.underlying3 rfl rfl (rdr 0 rfl) (by omega) (by omega)) ?_
    refine wr_y rfl (y_assign rfl) ?_
    refine wr_y rfl (y_assign rfl) ?_
    refine wr_nil ?_
    refine w_reg ?_
    refine wr_y rfl (y_move rfl) ?_
    refine wr_y rfl (y_move rfl) ?_
    refine wr_y rfl (y_move rfl) ?_
    refine wr_y rfl (y_index1 Tryz.underlying24 sz3 rfl rfl (rdr 1 rfl) (by rw [hr]; omega) (by rw [hr]; omega)) ?_
    refine wr_n (a_storeI 1 rfl sz3 rfl rfl (by rw [hr]; omega) (by rw [hr]; omega)) ?_
    rintro _ _ rfl
    refine wr_rows (R1 := [⟨3, 1, A_5, ((s).length), c_6, ints .i64 (rkL s (((s.length : Nat) : Int)).toNat), false⟩, ⟨3, 1, (some ⟨g_4, 0, none⟩), s.length, s.length, ints .i64 (upd V (rd (rkL s (((s.length : Nat) : Int)).toNat) i) i), false⟩, ⟨3, 1, A_1, ((k).toNat), c_2, ints .i64 (cntV s k), false⟩]) rfl ?_
    refine wr_nil ?_
    refine w_reg ?_
    refine wr_y rfl (y_addI rfl rfl (by omega)) ?_
    refine wr_y rfl (y_move rfl) ?_
    refine wr_nil ?_
    exact ⟨i + 1, upd V (rd (rkL s (((s.length : Nat) : Int)).toNat) i) i, ⟨(by omega), (by omega), (by rw [upd_length]; exact hVl), (fun q h => by
        rw [hr]
        have := places_step (m := i.toNat) (by omega) hVl (fun q h => hV q (by omega)) q (by omega)
        rwa [show ((i.toNat : Nat) : Int) = i by omega] at this)⟩, (by omega), (Sub.cons rfl (Sub.cons rfl (Sub.cons rfl (Sub.cons rfl Sub.nil)))), fun _ h => h⟩
  ·
    refine w_exit ?_
    refine w_seq ?_
    refine w_reg ?_
    refine wr_y rfl (y_move rfl) ?_
    refine wr_y rfl (y_assign rfl) ?_
    refine wr_y rfl (y_assign rfl) ?_
    refine wr_nil ?_
    refine w_retR (R1 := [⟨3, 1, (some ⟨g_4, 0, none⟩), s.length, s.length, ints .i64 V, false⟩]) (fun _ h => h.sel [1] (by decide) rfl) ?_
    refine ⟨_, _, rfl, rfl, ?_⟩
    exact ⟨V, _, _, rfl, hVl, fun q h => hV q (by omega), rfl⟩

set_option maxRecDepth 100000 in
theorem bytes15_ct {w : World} {A_u : Option Addr} {n_u c_u : Nat} {u : List Int} (h_u : Rd w A_u n_u c_u 1 (ints .u8 u)) (bh_u : ByteL u) (hN : u.length ≤ 100000) :
    Ct Tryz.prog 126 #[.slice A_u n_u c_u] w.heap.size w [] (fun v R' => ∃ (out : List Int) (A : Option Addr) (c : Nat), v = .tuple #[.slice A u.length c, .int .i64 0] ∧ out.length = u.length ∧ (∀ q : Nat, q < u.length → rd out (rkS u u.length q) = q) ∧ R' = [⟨3, 1, A, u.length, c, ints .i64 out, false⟩]) := by
  obtain rfl := h_u.lenI
  refine fn2 Tryz.func126 rfl rfl rfl ?_
  have m_u := h_u.max
  refine w_seq ?_
  refine w_reg ?_
  refine wr_y rfl (y_assign rfl) ?_
  refine wr_y rfl (y_assign rfl) ?_
  refine wr_nil ?_
  refine w_seq ?_
  refine w_seq ?_
  refine w_reg ?_
  refine wr_y rfl (y_move rfl) ?_
  refine wr_y rfl (y_len Tryz.underlying23 rfl) ?_
  refine wr_y rfl (Yl.f (y_gt rfl rfl) (by omega)) ?_
  refine wr_nil ?_
  refine w_false rfl ?_
  refine w_skip ?_
  refine w_seq ?_
  refine w_reg ?_
  refine wr_y rfl (y_move rfl) ?_
  refine wr_y rfl (y_len Tryz.underlying23 rfl) ?_
  refine wr_a rfl (a_makeN Tryz.underlying24 zb3 rfl rfl (by omega) (by omega) (by omega)) ?_
  rintro _ _ ⟨g_1, rfl, rfl⟩
  refine wr_rows (R1 := [⟨3, 1, (some ⟨g_1, 0, none⟩), u.length, u.length, ints .i64 (List.replicate u.length (0 : Int)), false⟩]) rfl ?_
  refine wr_as (v := .slice (some ⟨g_1, 0, none⟩) u.length u.length) rfl ?_
  refine wr_y rfl (y_assign rfl) ?_
  refine wr_nil ?_
  refine w_seq ?_
  refine w_seq ?_
  refine w_reg ?_
  refine wr_y rfl (y_move rfl) ?_
  refine wr_y rfl (y_len Tryz.underlying23 rfl) ?_
  refine wr_y rfl (y_move rfl) ?_
  refine wr_nil ?_
  refine w_block ?_
  refine w_loop2 (fun (i : Int) (V : List Int) => [(4, .slice (some ⟨g_1, 0, none⟩) u.length u.length), (13, .slice A_u u.length c_u), (14, .int .i64 ((u.length : Nat) : Int)), (15, .int .i64 i)]) (fun (i : Int) (V : List Int) => [⟨3, 1, (some ⟨g_1, 0, none⟩), u.length, u.length, ints .i64 V, false⟩]) (fun (i : Int) (V : List Int) => (0 ≤ i) ∧ (i ≤ u.length) ∧ (V.length = u.length) ∧ (∀ j : Int, 0 ≤ j → j < i → rd V j = rd u j)) (fun (i : Int) (V : List Int) => (u.length - i).toNat) ?_ ?_
  ·
    exact ⟨0, List.replicate u.length (0 : Int), ⟨(by omega), (by omega), (by rw [List.length_replicate]), (fun j h1 h2 => by omega)⟩, (Sub.cons rfl (Sub.cons rfl (Sub.cons rfl (Sub.cons rfl Sub.nil)))), fun _ h => h⟩
  intro i V ⟨hi0, hi1, hVl, hV⟩
  refine w_seq ?_
  refine w_reg ?_
  refine wr_y rfl (y_lt rfl rfl) ?_
  refine wr_nil ?_
  refine w_seq ?_
  refine w_if rfl (fun hc1 => ?_) (fun hc1 => ?_)
  ·
    have hbi := bh_u.rd i
    refine w_skip ?_
    refine w_seq ?_
    refine w_block ?_
    refine w_seq ?_
    refine w_reg ?_
    refine wr_y rfl (y_move rfl) ?_
    refine wr_y rfl (y_index1 Tryz.underlying23 sz5 rfl rfl (h_u.c _) (by omega) (by omega)) ?_
    refine wr_y rfl (y_ldI Tryz.underlying5 rfl rfl (h_u.c _) (by omega) (by omega)) ?_
    refine wr_y rfl (y_assign rfl) ?_
    refine wr_y rfl (y_assign rfl) ?_
    refine wr_nil ?_
    refine w_reg ?_
    refine wr_y rfl (y_move rfl) ?_
    refine wr_y rfl (y_move rfl) ?_
    refine wr_y rfl (y_move rfl) ?_
    refine wr_y rfl (y_convI Tryz.underlying5 Tryz.underlying3 rfl (by omega)) ?_
    refine wr_y rfl (y_index1 Tryz.underlying24 sz3 rfl rfl (rdr 0 rfl) (by omega) (by omega)) ?_
    refine wr_n (a_storeI 0 rfl sz3 rfl rfl (by omega) (by omega)) ?_
    rintro _ _ rfl
    refine wr_rows (R1 := [⟨3, 1, (some ⟨g_1, 0, none⟩), u.length, u.length, ints .i64 (upd V i (rd u i)), false⟩]) rfl ?_
    refine wr_nil ?_
    refine w_reg ?_
    refine wr_y rfl (y_addI rfl rfl (by omega)) ?_
    refine wr_y rfl (y_move rfl) ?_
    refine wr_nil ?_
    exact ⟨i + 1, upd V i (rd u i), ⟨(by omega), (by omega), (by rw [upd_length]; exact hVl), (fill_step (f := fun j => rd u j) hi0 (by omega) hV rfl)⟩, (by omega), (Sub.cons rfl (Sub.cons rfl (Sub.cons rfl (Sub.cons rfl Sub.nil)))), fun _ h => h⟩
  ·
    have hVu : V = u := list_ext_rd hVl (fun j h1 h2 => hV j h1 (by omega))
    refine w_exit ?_
    refine w_seq ?_
    refine w_reg ?_
    refine wr_y rfl (y_move rfl) ?_
    refine wr_a rfl (a_callF en202 rfl (Ct.fresh (fun w hw => ints15_ct ((rdr 0 rfl) w hw) ⟨by omega, fun x hx => by rw [hVu] at hx; have := bh_u x hx; omega⟩ (by omega)))) ?_
    rintro _ _ ⟨_, rfl, o1, A_2, c_3, rfl, hl_o1, hq_o1, rfl⟩
    refine wr_y rfl (y_extract rfl rfl) ?_
    refine wr_y rfl (y_extract rfl rfl) ?_
    refine wr_y rfl (y_assign rfl) ?_
    refine wr_y rfl (y_assign rfl) ?_
    refine wr_nil ?_
    refine w_retR (R1 := [⟨3, 1, A_2, V.length, c_3, ints .i64 o1, false⟩]) (fun _ h => h.sel [0] (by decide) rfl) ?_
    refine ⟨_, _, rfl, rfl, ?_⟩
    subst hVu
    exact ⟨o1, _, _, rfl, hl_o1, hq_o1, rfl⟩

end Go.Proofs.YtipnciohgbjjhaaGreat

/-! ## G5 -/
namespace Go.Proofs.YtipnciohgbjjhaaGreat
open Go Go.Eng Go.Pure
set_option linter.unusedVariables false
set_option maxRecDepth 100000 in
theorem words11_ct {w : World} {A_u : Option Addr} {n_u c_u : Nat} {u : List Int} {A_t : Option Addr} {n_t c_t : Nat} {t : List Int} (h_u : Rd w A_u n_u c_u 1 (ints .i64 u)) (h_t : Rd w A_t n_t c_t 1 (ints .i64 t)) :
    Ct Tryz.prog 134 #[.slice A_u n_u c_u, .slice A_t n_t c_t] w.heap.size w [] (fun v R' => v = .int .i64 (cmpL u t)) := by
  obtain rfl := h_u.lenI
  obtain rfl := h_t.lenI
  refine fn1 Tryz.func134 rfl rfl rfl ?_
  have m_u := h_u.max
  have m_t := h_t.max
  refine w_seq ?_
  refine w_reg ?_
  refine wr_y rfl (y_assign rfl) ?_
  refine wr_nil ?_
  refine w_seq ?_
  refine w_seq ?_
  refine w_reg ?_
  refine wr_y rfl (y_assign rfl) ?_
  refine wr_nil ?_
  refine w_block ?_
  refine w_loop1 (fun (i : Int) => [(0, .slice A_u u.length c_u), (1, .slice A_t t.length c_t), (5, .int .i64 i)]) (fun (i : Int) => []) (fun (i : Int) => (0 ≤ i) ∧ (i ≤ u.length) ∧ (i ≤ t.length) ∧ (cmpL u t = cmpL (u.drop i.toNat) (t.drop i.toNat))) (fun (i : Int) => (u.length - i).toNat) ?_ ?_
  ·
    exact ⟨0, ⟨(by omega), (by omega), (by omega), (by simp)⟩, (Sub.cons rfl (Sub.cons rfl (Sub.cons rfl Sub.nil))), fun _ h => h⟩
  intro i ⟨hi0, hiu, hit, hc⟩
  refine w_seq ?_
  refine w_seq ?_
  refine w_reg ?_
  refine wr_y rfl (y_move rfl) ?_
  refine wr_y rfl (y_move rfl) ?_
  refine wr_y rfl (y_len Tryz.underlying24 rfl) ?_
  refine wr_y rfl (y_lt rfl rfl) ?_
  refine wr_y rfl (y_move rfl) ?_
  refine wr_mid 5 [(0, .slice A_u u.length c_u), (1, .slice A_t t.length c_t), (5, .int .i64 i), (15, .bool (decide ((i < ((u.length : Nat) : Int)) ∧ (i < ((t.length : Nat) : Int)))))] [] ?_ ?_
  ·
    refine wr_case 10 rfl (fun hc1 => ?_) (fun hc1 => ?_)
    ·
      refine wr_yes rfl rfl ?_
      refine wr_y rfl (y_move rfl) ?_
      refine wr_yes rfl rfl ?_
      refine wr_y rfl (y_move rfl) ?_
      refine wr_yes rfl rfl ?_
      refine wr_y rfl (y_len Tryz.underlying24 rfl) ?_
      refine wr_yes rfl rfl ?_
      refine wr_y rfl (y_lt rfl rfl) ?_
      refine wr_y rfl (y_pickT rfl rfl) ?_
      refine wr_nil ?_
      exact ⟨(Sub.cons rfl (Sub.cons rfl (Sub.cons rfl (Sub.to rfl (mb (by first | omega | exact ⟨fun h => ⟨(by assumption), h⟩, fun h => h.2⟩ | exact .inl (by assumption) | exact ⟨.inr, fun h => h.resolve_left (by assumption)⟩ | exact ⟨fun h => h.resolve_left (by assumption), .inr⟩ | simp [*])) Sub.nil)))), fun _ h => h⟩
    ·
      refine wr_no rfl rfl rfl rfl ?_
      refine wr_no rfl rfl rfl rfl ?_
      refine wr_no rfl rfl rfl rfl ?_
      refine wr_no rfl rfl rfl rfl ?_
      refine wr_y rfl (y_pickF rfl rfl) ?_
      refine wr_nil ?_
      exact ⟨(Sub.cons rfl (Sub.cons rfl (Sub.cons rfl (Sub.to rfl (mb_f (by first | omega | exact ⟨fun h => ⟨(by assumption), h⟩, fun h => h.2⟩ | exact .inl (by assumption) | exact ⟨.inr, fun h => h.resolve_left (by assumption)⟩ | exact ⟨fun h => h.resolve_left (by assumption), .inr⟩ | simp [*])) Sub.nil)))), fun _ h => h⟩
  refine wr_nil ?_
  refine w_if rfl (fun hc2 => ?_) (fun hc2 => ?_)
  ·
    refine w_skip ?_
    refine w_seq ?_
    refine w_block ?_
    refine w_seq ?_
    refine w_seq ?_
    refine w_regd mixed ?_
    refine wd_y 0 rfl (by kernel_rfl) rfl (y_move rfl) ?_
    refine wd_y 1 rfl (by kernel_rfl) rfl (y_move rfl) ?_
    refine wd_y 2 rfl (by kernel_rfl) rfl (y_index1 Tryz.underlying24 sz3 rfl rfl (h_u.c _) (by omega) (by omega)) ?_
    refine wd_y 3 rfl (by kernel_rfl) rfl (y_ldI Tryz.underlying3 rfl rfl (h_u.c _) (by omega) (by omega)) ?_
    refine wd_y 4 rfl (by kernel_rfl) rfl (y_move rfl) ?_
    refine wd_y 5 rfl (by kernel_rfl) rfl (y_move rfl) ?_
    refine wd_y 6 rfl (by kernel_rfl) rfl (y_index1 Tryz.underlying24 sz3 rfl rfl (h_t.c _) (by omega) (by omega)) ?_
    refine wd_y 7 rfl (by kernel_rfl) rfl (y_ldI Tryz.underlying3 rfl rfl (h_t.c _) (by omega) (by omega)) ?_
    refine wd_y 8 rfl (by kernel_rfl) rfl (y_lt rfl rfl) ?_
    refine wd_nil (by kernel_rfl) ?_
    refine w_if rfl (fun hc3 => ?_) (fun hc3 => ?_)
    ·
      refine w_seq ?_
      refine w_reg ?_
      refine wr_y rfl (y_assign rfl) ?_
      refine wr_nil ?_
      refine w_ret ?_
      refine ⟨_, rfl, ?_⟩
      exact congrArg (Value.int .i64) (by rw [hc, cmpL_step hi0 (by omega) (by omega), if_pos (by omega)])
    ·
      refine w_skip ?_
      refine w_seq ?_
      refine w_regd mixed ?_
      refine wd_y 0 rfl (by kernel_rfl) rfl (y_move rfl) ?_
      refine wd_y 1 rfl (by kernel_rfl) rfl (y_move rfl) ?_
      refine wd_y 2 rfl (by kernel_rfl) rfl (y_index1 Tryz.underlying24 sz3 rfl rfl (h_u.c _) (by omega) (by omega)) ?_
      refine wd_y 3 rfl (by kernel_rfl) rfl (y_ldI Tryz.underlying3 rfl rfl (h_u.c _) (by omega) (by omega)) ?_
      refine wd_y 4 rfl (by kernel_rfl) rfl (y_move rfl) ?_
      refine wd_y 5 rfl (by kernel_rfl) rfl (y_move rfl) ?_
      refine wd_y 6 rfl (by kernel_rfl) rfl (y_index1 Tryz.underlying24 sz3 rfl rfl (h_t.c _) (by omega) (by omega)) ?_
      refine wd_y 7 rfl (by kernel_rfl) rfl (y_ldI Tryz.underlying3 rfl rfl (h_t.c _) (by omega) (by omega)) ?_
      refine wd_y 8 rfl (by kernel_rfl) rfl (y_gt rfl rfl) ?_
      refine wd_nil (by kernel_rfl) ?_
      refine w_if rfl (fun hc4 => ?_) (fun hc4 => ?_)
      ·
        refine w_seq ?_
        refine w_reg ?_
        refine wr_y rfl (y_assign rfl) ?_
        refine wr_nil ?_
        refine w_ret ?_
        refine ⟨_, rfl, ?_⟩
        exact congrArg (Value.int .i64) (by rw [hc, cmpL_step hi0 (by omega) (by omega), if_neg (by omega), if_pos (by omega)])
      ·
        refine w_skip ?_
        refine w_reg ?_
        refine wr_y rfl (y_move rfl) ?_
        refine wr_y rfl (y_addI rfl rfl (by omega)) ?_
        refine wr_y rfl (y_assign rfl) ?_
        refine wr_nil ?_
        exact ⟨i + 1, ⟨(by omega), (by omega), (by omega), (by rw [hc, cmpL_step hi0 (by omega) (by omega), if_neg (by omega), if_neg (by omega)])⟩, (by omega), (Sub.cons rfl (Sub.cons rfl (Sub.cons rfl Sub.nil))), fun _ h => h⟩
  ·
    refine w_exit ?_
    refine w_seq ?_
    refine w_block ?_
    refine w_seq ?_
    refine w_reg ?_
    refine wr_y rfl (y_move rfl) ?_
    refine wr_y rfl (y_len Tryz.underlying24 rfl) ?_
    refine wr_y rfl (y_move rfl) ?_
    refine wr_y rfl (y_len Tryz.underlying24 rfl) ?_
    refine wr_y rfl (y_lt rfl rfl) ?_
    refine wr_y rfl (y_assign rfl) ?_
    refine wr_nil ?_
    refine w_if rfl (fun hc5 => ?_) (fun hc5 => ?_)
    ·
      refine w_seq ?_
      refine w_reg ?_
      refine wr_y rfl (y_assign rfl) ?_
      refine wr_nil ?_
      refine w_ret ?_
      refine ⟨_, rfl, ?_⟩
      exact congrArg (Value.int .i64) (by rw [hc, cmpL_end hi0 hiu hit (by omega), if_pos (by omega)])
    ·
      refine w_seq ?_
      refine w_reg ?_
      refine wr_y rfl (y_move rfl) ?_
      refine wr_y rfl (y_len Tryz.underlying24 rfl) ?_
      refine wr_y rfl (y_move rfl) ?_
      refine wr_y rfl (y_len Tryz.underlying24 rfl) ?_
      refine wr_y rfl (y_gt rfl rfl) ?_
      refine wr_y rfl (y_assign rfl) ?_
      refine wr_nil ?_
      refine w_if rfl (fun hc6 => ?_) (fun hc6 => ?_)
      ·
        refine w_seq ?_
        refine w_reg ?_
        refine wr_y rfl (y_assign rfl) ?_
        refine wr_nil ?_
        refine w_ret ?_
        refine ⟨_, rfl, ?_⟩
        exact congrArg (Value.int .i64) (by rw [hc, cmpL_end hi0 hiu hit (by omega), if_neg (by omega), if_pos (by omega)])
      ·
        refine w_skip ?_
        refine w_seq ?_
        refine w_reg ?_
        refine wr_y rfl (y_assign rfl) ?_
        refine wr_nil ?_
        refine w_ret ?_
        refine ⟨_, rfl, ?_⟩
        exact congrArg (Value.int .i64) (by rw [hc, cmpL_end hi0 hiu hit (by omega), if_neg (by omega), if_neg (by omega)])

set_option maxRecDepth 100000 in
theorem ints4_ct {w : World} {A_l : Option Addr} {n_l c_l : Nat} {l : List Int} {A_m : Option Addr} {n_m c_m : Nat} {m : List Int} (h_l : Rd w A_l n_l c_l 1 (ints .i64 l)) (h_m : Rd w A_m n_m c_m 1 (ints .i64 m)) (hN : l.length ≤ 1000000) :
    Ct Tryz.prog 30 #[.slice A_l n_l c_l, .slice A_m n_m c_m] w.heap.size w [] (fun v R' => v = .bool (decide (l = m))) := by
  obtain rfl := h_l.lenI
  obtain rfl := h_m.lenI
  refine fn1 Tryz.func30 rfl rfl rfl ?_
  have m_l := h_l.max
  have m_m := h_m.max
  refine w_seq ?_
  refine w_reg ?_
  refine wr_y rfl (y_assign rfl) ?_
  refine wr_nil ?_
  refine w_seq ?_
  refine w_seq ?_
  refine w_reg ?_
  refine wr_y rfl (y_move rfl) ?_
  refine wr_y rfl (y_len Tryz.underlying24 rfl) ?_
  refine wr_y rfl (y_move rfl) ?_
  refine wr_y rfl (y_len Tryz.underlying24 rfl) ?_
  refine wr_y rfl (y_ne rfl rfl) ?_
  refine wr_nil ?_
  refine w_if rfl (fun hc1 => ?_) (fun hc1 => ?_)
  ·
    refine w_seq ?_
    refine w_reg ?_
    refine wr_y rfl (y_assign rfl) ?_
    refine wr_nil ?_
    refine w_ret ?_
    refine ⟨_, rfl, ?_⟩
    exact congrArg Value.bool (decide_eq_false (fun e => by rw [e] at hc1; exact hc1 rfl)).symm
  ·
    refine w_skip ?_
    refine w_seq ?_
    refine w_seq ?_
    refine w_reg ?_
    refine wr_y rfl (y_assign rfl) ?_
    refine wr_nil ?_
    refine w_block ?_
    refine w_loop1 (fun (k : Int) => [(0, .slice A_l l.length c_l), (1, .slice A_m m.length c_m), (5, .int .i64 k)]) (fun (k : Int) => []) (fun (k : Int) => (0 ≤ k) ∧ (k ≤ l.length) ∧ (l.take k.toNat = m.take k.toNat)) (fun (k : Int) => (l.length - k).toNat) ?_ ?_
    ·
      exact ⟨0, ⟨(by omega), (by omega), (rfl)⟩, (Sub.cons rfl (Sub.cons rfl (Sub.cons rfl Sub.nil))), fun _ h => h⟩
    intro k ⟨hk0, hk1, hq⟩
    refine w_seq ?_
    refine w_seq ?_
    refine w_reg ?_
    refine wr_y rfl (y_move rfl) ?_
    refine wr_y rfl (y_move rfl) ?_
    refine wr_y rfl (y_len Tryz.underlying24 rfl) ?_
    refine wr_y rfl (y_lt rfl rfl) ?_
    refine wr_nil ?_
    refine w_if rfl (fun hc2 => ?_) (fun hc2 => ?_)
    ·
      refine w_skip ?_
      refine w_seq ?_
      refine w_block ?_
      refine w_seq ?_
      refine w_regd mixed ?_
      refine wd_y 0 rfl (by kernel_rfl) rfl (y_move rfl) ?_
      refine wd_y 1 rfl (by kernel_rfl) rfl (y_move rfl) ?_
      refine wd_y 2 rfl (by kernel_rfl) rfl (y_index1 Tryz.underlying24 sz3 rfl rfl (h_l.c _) (by omega) (by omega)) ?_
      refine wd_y 3 rfl (by kernel_rfl) rfl (y_ldI Tryz.underlying3 rfl rfl (h_l.c _) (by omega) (by omega)) ?_
      refine wd_y 4 rfl (by kernel_rfl) rfl (y_move rfl) ?_
      refine wd_y 5 rfl (by kernel_rfl) rfl (y_move rfl) ?_
      refine wd_y 6 rfl (by kernel_rfl) rfl (y_index1 Tryz.underlying24 sz3 rfl rfl (h_m.c _) (by omega) (by omega)) ?_
      refine wd_y 7 rfl (by kernel_rfl) rfl (y_ldI Tryz.underlying3 rfl rfl (h_m.c _) (by omega) (by omega)) ?_
      refine wd_y 8 rfl (by kernel_rfl) rfl (y_ne rfl rfl) ?_
      refine wd_nil (by kernel_rfl) ?_
      refine w_if rfl (fun hc3 => ?_) (fun hc3 => ?_)
      ·
        refine w_seq ?_
        refine w_reg ?_
        refine wr_y rfl (y_assign rfl) ?_
        refine wr_nil ?_
        refine w_ret ?_
        refine ⟨_, rfl, ?_⟩
        exact congrArg Value.bool (decide_eq_false (fun e => by subst e; exact hc3 rfl)).symm
      ·
        refine w_skip ?_
        refine w_reg ?_
        refine wr_y rfl (y_move rfl) ?_
        refine wr_y rfl (y_addI rfl rfl (by omega)) ?_
        refine wr_y rfl (y_assign rfl) ?_
        refine wr_nil ?_
        exact ⟨k + 1, ⟨(by omega), (by omega), (by rw [take_rd hk0 (by omega), take_rd hk0 (by omega), hq]; exact congrArg (fun z => List.take k.toNat m ++ [z]) (Decidable.not_not.1 (by assumption)))⟩, (by omega), (Sub.cons rfl (Sub.cons rfl (Sub.cons rfl Sub.nil))), fun _ h => h⟩
    ·
      refine w_exit ?_
      refine w_seq ?_
      refine w_reg ?_
      refine wr_y rfl (y_assign rfl) ?_
      refine wr_nil ?_
      refine w_ret ?_
      refine ⟨_, rfl, ?_⟩
      exact congrArg Value.bool (decide_eq_true (by rw [List.take_of_length_le (by omega), List.take_of_length_le (by omega)] at hq; exact hq)).symm

set_option maxRecDepth 100000 in
set_option maxHeartbeats 600000 in
theorem order13_ct {w : World} {A_s : Option Addr} {n_s c_s : Nat} {s : List Int} (h_s : Rd w A_s n_s c_s 1 (ints .i64 s)) (hN : s.length ≤ 1000000) :
    Ct Tryz.prog 73 #[.slice A_s n_s c_s] w.heap.size w [] (fun v R' => ∃ (b : List Int) (A : Option Addr) (c : Nat), v = .slice A s.length c ∧ b.Perm (iota s.length) ∧ b.Pairwise (ordE s) ∧ R' = [⟨3, 1, A, s.length, c, ints .i64 b, false⟩]) := by
  obtain rfl := h_s.lenI
  refine fn1 Tryz.func73 rfl rfl rfl ?_
  have m_s := h_s.max
  refine w_seq ?_
  refine w_reg ?_
  refine wr_y rfl (y_assign rfl) ?_
  refine wr_nil ?_
  refine w_seq ?_
  refine w_reg ?_
  refine wr_sub (R1 := [⟨3, 1, none, 0, 0, ints .i64 ([]), false⟩]) (Sub.refl _) (fun _ h => h.nil 3 1) ?_
  refine wr_y rfl (y_assign rfl) ?_
  refine wr_nil ?_
  refine w_seq ?_
  refine w_seq ?_
  refine w_reg ?_
  refine wr_y rfl (y_assign rfl) ?_
  refine wr_nil ?_
  refine w_block ?_
  refine w_loop5 (fun (i : Int) (A1 : Option Addr) (n1 : Nat) (c1 : Nat) (U : List Int) => [(0, .slice A_s s.length c_s), (3, .slice A1 n1 c1), (4, .int .i64 i)]) (fun (i : Int) (A1 : Option Addr) (n1 : Nat) (c1 : Nat) (U : List Int) => [⟨3, 1, A1, n1, c1, ints .i64 U, false⟩]) (fun (i : Int) (A1 : Option Addr) (n1 : Nat) (c1 : Nat) (U : List Int) => (0 ≤ i) ∧ (i ≤ s.length) ∧ (n1 = U.length) ∧ (U.Perm (iota i.toNat)) ∧ (U.Pairwise (ordE s))) (fun (i : Int) (A1 : Option Addr) (n1 : Nat) (c1 : Nat) (U : List Int) => (s.length - i).toNat) ?_ ?_
  ·
    exact ⟨0, none, 0, 0, [], ⟨(by omega), (by omega), (rfl), (.refl _), (.nil)⟩, (Sub.cons rfl (Sub.cons rfl (Sub.cons rfl Sub.nil))), fun _ h => h⟩
  intro i A1 n1 c1 U ⟨hi0, hi1, hn1, hp, hs⟩
  have hUl : U.length = i.toNat := by rw [hp.length_eq, iota_len]
  refine w_seq ?_
  refine w_seq ?_
  refine w_reg ?_
  refine wr_y rfl (y_move rfl) ?_
  refine wr_y rfl (y_move rfl) ?_
  refine wr_y rfl (y_len Tryz.underlying24 rfl) ?_
  refine wr_y rfl (y_lt rfl rfl) ?_
  refine wr_nil ?_
  refine w_if rfl (fun hc1 => ?_) (fun hc1 => ?_)
  ·
    refine w_skip ?_
    refine w_seq ?_
    refine w_block ?_
    refine w_seq ?_
    refine w_reg ?_
    refine wr_y rfl (y_move rfl) ?_
    refine wr_y rfl (y_len Tryz.underlying24 rfl) ?_
    refine wr_y rfl (y_assign rfl) ?_
    refine wr_nil ?_
    refine w_seq ?_
    refine w_block ?_
    refine w_loop1 (fun (j : Int) => [(0, .slice A_s s.length c_s), (3, .slice A1 n1 c1), (4, .int .i64 i), (5, .int .i64 j)]) (fun (j : Int) => [⟨3, 1, A1, n1, c1, ints .i64 U, false⟩]) (fun (j : Int) => (0 ≤ j) ∧ (j ≤ U.length) ∧ (∀ q : Int, j ≤ q → q < U.length → ordE s i (rd U q))) (fun (j : Int) => j.toNat) ?_ ?_
    ·
      exact ⟨((n1 : Nat) : Int), ⟨(by omega), (by omega), (fun q h1 h2 => by omega)⟩, (Sub.cons rfl (Sub.cons rfl (Sub.cons rfl (Sub.cons rfl Sub.nil)))), fun _ h => h⟩
    intro j ⟨hj0, hj1, hgt⟩
    have hmem : ∀ q : Int, 0 ≤ q → q < U.length → 0 ≤ rd U q ∧ rd U q < i.toNat := fun q h1 h2 => mem_iota.1 (hp.subset (rd_mem h1 h2))
    have hmj : 0 < j → 0 ≤ rd U (j - 1) ∧ rd U (j - 1) < s.length := fun h => by have := hmem (j - 1) (by omega) (by omega); omega
    refine w_seq ?_
    refine w_join0 [(0, .slice A_s s.length c_s), (3, .slice A1 n1 c1), (4, .int .i64 i), (5, .int .i64 j), (29, .bool (decide ((0 < j) ∧ ((cmpL ((s).drop (i).toNat) ((s).drop (rd U (j - 1)).toNat)) < 0))))] [⟨3, 1, A1, n1, c1, ints .i64 U, false⟩] ?_ ?_
    ·
      refine w_regd mixed ?_
      refine wd_y 0 rfl (by kernel_rfl) rfl (y_move rfl) ?_
      refine wd_y 1 rfl (by kernel_rfl) rfl (y_gt rfl rfl) ?_
      refine wd_y 2 rfl (by kernel_rfl) rfl (y_move rfl) ?_
      refine wd_case 16 rfl (fun hc2 => ?_) (fun hc2 => ?_)
      ·
        refine wd_yg 3 rfl (by kernel_rfl) rfl rfl rfl (y_move rfl) ?_
        refine wd_yg 4 rfl (by kernel_rfl) rfl rfl rfl (y_move rfl) ?_
        refine wd_yg 5 rfl (by kernel_rfl) rfl rfl rfl (y_sliceFrom Tryz.underlying24 sz3 rfl rfl (by omega) (by omega)) ?_
        refine wd_yg 6 rfl (by kernel_rfl) rfl rfl rfl (y_move rfl) ?_
        refine wd_yg 7 rfl (by kernel_rfl) rfl rfl rfl (y_move rfl) ?_
        refine wd_yg 8 rfl (by kernel_rfl) rfl rfl rfl (y_move rfl) ?_
        refine wd_yg 9 rfl (by kernel_rfl) rfl rfl rfl (y_subI rfl rfl (by omega)) ?_
        refine wd_yg 10 rfl (by kernel_rfl) rfl rfl rfl (y_index1 Tryz.underlying24 sz3 rfl rfl (rdr 0 rfl) (by omega) (by omega)) ?_
        refine wd_yg 11 rfl (by kernel_rfl) rfl rfl rfl (y_ldI Tryz.underlying3 rfl rfl (rdr 0 rfl) (by omega) (by omega)) ?_
        refine wd_yg 12 rfl (by kernel_rfl) rfl rfl rfl (y_sliceFrom Tryz.underlying24 sz3 rfl rfl (by have := hmem (j - 1) (by omega) (by omega); omega) (by have := hmem (j - 1) (by omega) (by omega); omega)) ?_
        refine wd_ag 13 rfl (by kernel_rfl) rfl rfl rfl (a_callF en134 rfl (Ct.quiet (fun w hw => words11_ct ((RdC.fromI (h_s.c _) (by omega)) w hw) ((RdC.fromI (h_s.c _) (by omega)) w hw)))) ?_
        rintro _ _ ⟨rfl, rfl⟩
        refine ⟨.inr fun _ h => h, ?_⟩
        refine wd_yg 14 rfl (by kernel_rfl) rfl rfl rfl (y_lt rfl rfl) ?_
        refine wd_y 15 rfl (by kernel_rfl) rfl (y_pickT rfl rfl) ?_
        refine wd_nil (by kernel_rfl) ?_
        exact ⟨(Sub.cons rfl (Sub.cons rfl (Sub.cons rfl (Sub.cons rfl (Sub.to rfl (mb (by first | omega | exact ⟨fun h => ⟨(by assumption), h⟩, fun h => h.2⟩ | exact .inl (by assumption) | exact ⟨.inr, fun h => h.resolve_left (by assumption)⟩ | exact ⟨fun h => h.resolve_left (by assumption), .inr⟩ | simp [*])) Sub.nil))))), fun _ h => h⟩
      ·
        refine wd_no 3 rfl (by kernel_rfl) rfl rfl rfl rfl ?_
        refine wd_no 4 rfl (by kernel_rfl) rfl rfl rfl rfl ?_
        refine wd_no 5 rfl (by kernel_rfl) rfl rfl rfl rfl ?_
        refine wd_no 6 rfl (by kernel_rfl) rfl rfl rfl rfl ?_
        refine wd_no 7 rfl (by kernel_rfl) rfl rfl rfl rfl ?_
        refine wd_no 8 rfl (by kernel_rfl) rfl rfl rfl rfl ?_
        refine wd_no 9 rfl (by kernel_rfl) rfl rfl rfl rfl ?_
        refine wd_no 10 rfl (by kernel_rfl) rfl rfl rfl rfl ?_
        refine wd_no 11 rfl (by kernel_rfl) rfl rfl rfl rfl ?_
        refine wd_no 12 rfl (by kernel_rfl) rfl rfl rfl rfl ?_
        refine wd_no 13 rfl (by kernel_rfl) rfl rfl rfl rfl ?_
        refine wd_no 14 rfl (by kernel_rfl) rfl rfl rfl rfl ?_
        refine wd_y 15 rfl (by kernel_rfl) rfl (y_pickF rfl rfl) ?_
        refine wd_nil (by kernel_rfl) ?_
        exact ⟨(Sub.cons rfl (Sub.cons rfl (Sub.cons rfl (Sub.cons rfl (Sub.to rfl (mb_f (by first | omega | exact ⟨fun h => ⟨(by assumption), h⟩, fun h => h.2⟩ | exact .inl (by assumption) | exact ⟨.inr, fun h => h.resolve_left (by assumption)⟩ | exact ⟨fun h => h.resolve_left (by assumption), .inr⟩ | simp [*])) Sub.nil))))), fun _ h => h⟩
    refine w_if rfl (fun hc3 => ?_) (fun hc3 => ?_)
    ·
      have hdn := insE_down (s := s) hgt hc3
      refine w_skip ?_
      refine w_block ?_
      refine w_reg ?_
      refine wr_y rfl (y_move rfl) ?_
      refine wr_y rfl (y_subI rfl rfl (by omega)) ?_
      refine wr_y rfl (y_assign rfl) ?_
      refine wr_nil ?_
      exact ⟨j - 1, ⟨(by omega), (by omega), (hdn)⟩, (by omega), (Sub.cons rfl (Sub.cons rfl (Sub.cons rfl (Sub.cons rfl Sub.nil)))), fun _ h => h⟩
    ·
      have hins := insE_all (s := s) hi0 (by omega) hp hs hj0 hj1 hgt hc3
      refine w_exit ?_
      refine w_regd mixed ?_
      refine wd_y 1 rfl (by kernel_rfl) rfl (y_move rfl) ?_
      refine wd_y 2 rfl (by kernel_rfl) rfl (y_move rfl) ?_
      refine wd_y 3 rfl (by kernel_rfl) rfl (y_sliceTo Tryz.underlying24 sz3 rfl rfl (rdr 0 rfl) (by omega) (by omega)) ?_
      refine wd_y 5 rfl (by kernel_rfl) rfl (y_move rfl) ?_
      refine wd_y 8 rfl (by kernel_rfl) rfl (y_move rfl) ?_
      refine wd_y 9 rfl (by kernel_rfl) rfl (y_move rfl) ?_
      refine wd_y 10 rfl (by kernel_rfl) rfl (y_sliceFrom Tryz.underlying24 sz3 rfl rfl (by omega) (by omega)) ?_
      refine wd_two 0 6 (by kernel_rfl) ?_ ?_
      ·
        refine t1_a 0 rfl rfl (a_litI .i64 [] Tryz.underlying24 zs3 rfl rfl rfl) ?_
        rintro _ _ ⟨g_2, rfl, rfl⟩
        refine ⟨.inr fun _ h => h.right (R' := [_]), ?_⟩
        refine wd_two 4 6 (by kernel_rfl) ?_ ?_
        ·
          refine t1_a 4 rfl rfl (a_appendI 0 rfl Tryz.underlying24 zb3 rfl rfl rfl (RdC.toI (rdr 1 rfl) (by omega)) (by omega)) ?_
          rintro _ _ ⟨A_3, c_4, rfl, rfl⟩
          refine ⟨.inl (by kernel_rfl), ?_⟩
          refine wd_rows (R1 := [⟨3, 1, A_3, (0 + ((j).toNat)), c_4, ints .i64 (([]) ++ ((U).take (j).toNat)), false⟩, ⟨3, 1, A1, n1, c1, ints .i64 U, false⟩]) rfl ?_
          refine wd_as (v := .slice A_3 (0 + ((j).toNat)) c_4) rfl ?_
          refine wd_a 6 rfl (by kernel_rfl) rfl (a_litI .i64 [i] Tryz.underlying24 zs3 rfl rfl rfl) ?_
          rintro _ _ ⟨g_6, rfl, rfl⟩
          refine ⟨.inr fun _ h => h.right (R' := [_]), ?_⟩
          refine wd_a 7 rfl (by kernel_rfl) rfl (a_appendI 1 rfl Tryz.underlying24 zb3 rfl rfl rfl (rdr 0 rfl) (by omega)) ?_
          rintro _ _ ⟨A_7, c_8, rfl, rfl⟩
          refine ⟨.inl (by kernel_rfl), ?_⟩
          refine wd_rows (R1 := [⟨3, 1, (some ⟨g_6, 0, none⟩), 1, 1, ints .i64 ([i]), false⟩, ⟨3, 1, A_7, ((0 + ((j).toNat)) + 1), c_8, ints .i64 ((([]) ++ ((U).take (j).toNat)) ++ ([i])), false⟩, ⟨3, 1, A1, n1, c1, ints .i64 U, false⟩]) rfl ?_
          refine wd_as (v := .slice A_7 ((0 + ((j).toNat)) + 1) c_8) rfl ?_
          refine wd_a 11 rfl (by kernel_rfl) rfl (a_appendI 1 rfl Tryz.underlying24 zb3 rfl rfl rfl (RdC.fromI (rdr 2 rfl) (by omega)) (by omega)) ?_
          rintro _ _ ⟨A_9, c_10, rfl, rfl⟩
          refine ⟨.inl (by kernel_rfl), ?_⟩
          refine wd_rows (R1 := [⟨3, 1, (some ⟨g_6, 0, none⟩), 1, 1, ints .i64 ([i]), false⟩, ⟨3, 1, A_9, (((0 + ((j).toNat)) + 1) + (n1 - (j).toNat)), c_10, ints .i64 (((([]) ++ ((U).take (j).toNat)) ++ ([i])) ++ ((U).drop (j).toNat)), false⟩, ⟨3, 1, A1, n1, c1, ints .i64 U, false⟩]) rfl ?_
          refine wd_as (v := .slice A_9 (((0 + ((j).toNat)) + 1) + (n1 - (j).toNat)) c_10) rfl ?_
          refine wd_y 12 rfl (by kernel_rfl) rfl (y_assign rfl) ?_
          refine wd_nil (by kernel_rfl) ?_
          refine w_reg ?_
          refine wr_y rfl (y_move rfl) ?_
          refine wr_y rfl (y_addI rfl rfl (by omega)) ?_
          refine wr_y rfl (y_assign rfl) ?_
          refine wr_nil ?_
          exact ⟨i + 1, A_9, ((0 + ((j).toNat)) + 1) + (n1 - (j).toNat), c_10, ((([]) ++ ((U).take (j).toNat)) ++ ([i])) ++ ((U).drop (j).toNat), ⟨(by omega), (by omega), (by simp only [List.length_append, List.length_take, List.length_drop, List.length_cons, List.length_nil]; omega), (hins.1), (hins.2)⟩, (by omega), (Sub.cons rfl (Sub.cons rfl (Sub.cons rfl Sub.nil))), fun _ h => h.sel [1] (by decide) rfl⟩
        ·
          refine t1_a 6 rfl rfl (a_litI .i64 [i] Tryz.underlying24 zs3 rfl rfl rfl) ?_
          rintro _ _ ⟨g_13, rfl, rfl⟩
          refine ⟨.inr fun _ h => h.right (R' := [_]), ?_⟩
          refine wd_a 4 rfl (by kernel_rfl) rfl (a_appendI 1 rfl Tryz.underlying24 zb3 rfl rfl rfl (RdC.toI (rdr 2 rfl) (by omega)) (by omega)) ?_
          rintro _ _ ⟨A_14, c_15, rfl, rfl⟩
          refine ⟨.inl (by kernel_rfl), ?_⟩
          refine wd_rows (R1 := [⟨3, 1, (some ⟨g_13, 0, none⟩), 1, 1, ints .i64 ([i]), false⟩, ⟨3, 1, A_14, (0 + ((j).toNat)), c_15, ints .i64 (([]) ++ ((U).take (j).toNat)), false⟩, ⟨3, 1, A1, n1, c1, ints .i64 U, false⟩]) rfl ?_
          refine wd_as (v := .slice A_14 (0 + ((j).toNat)) c_15) rfl ?_
          refine wd_a 7 rfl (by kernel_rfl) rfl (a_appendI 1 rfl Tryz.underlying24 zb3 rfl rfl rfl (rdr 0 rfl) (by omega)) ?_
          rintro _ _ ⟨A_16, c_17, rfl, rfl⟩
          refine ⟨.inl (by kernel_rfl), ?_⟩
          refine wd_rows (R1 := [⟨3, 1, (some ⟨g_13, 0, none⟩), 1, 1, ints .i64 ([i]), false⟩, ⟨3, 1, A_16, ((0 + ((j).toNat)) + 1), c_17, ints .i64 ((([]) ++ ((U).take (j).toNat)) ++ ([i])), false⟩, ⟨3, 1, A1, n1, c1, ints .i64 U, false⟩]) rfl ?_
          refine wd_as (v := .slice A_16 ((0 + ((j).toNat)) + 1) c_17) rfl ?_
          refine wd_a 11 rfl (by kernel_rfl) rfl (a_appendI 1 rfl Tryz.underlying24 zb3 rfl rfl rfl (RdC.fromI (rdr 2 rfl) (by omega)) (by omega)) ?_
          rintro _ _ ⟨A_18, c_19, rfl, rfl⟩
          refine ⟨.inl (by kernel_rfl), ?_⟩
          refine wd_rows (R1 := [⟨3, 1, (some ⟨g_13, 0, none⟩), 1, 1, ints .i64 ([i]), false⟩, ⟨3, 1, A_18, (((0 + ((j).toNat)) + 1) + (n1 - (j).toNat)), c_19, ints .i64 (((([]) ++ ((U).take (j).toNat)) ++ ([i])) ++ ((U).drop (j).toNat)), false⟩, ⟨3, 1, A1, n1, c1, ints .i64 U, false⟩]) rfl ?_
          refine wd_as (v := .slice A_18 (((0 + ((j).toNat)) + 1) + (n1 - (j).toNat)) c_19) rfl ?_
          refine wd_y 12 rfl (by kernel_rfl) rfl (y_assign rfl) ?_
          refine wd_nil (by kernel_rfl) ?_
          refine w_reg ?_
          refine wr_y rfl (y_move rfl) ?_
          refine wr_y rfl (y_addI rfl rfl (by omega)) ?_
          refine wr_y rfl (y_assign rfl) ?_
          refine wr_nil ?_
          exact ⟨i + 1, A_18, ((0 + ((j).toNat)) + 1) + (n1 - (j).toNat), c_19, ((([]) ++ ((U).take (j).toNat)) ++ ([i])) ++ ((U).drop (j).toNat), ⟨(by omega), (by omega), (by simp only [List.length_append, List.length_take, List.length_drop, List.length_cons, List.length_nil]; omega), (hins.1), (hins.2)⟩, (by omega), (Sub.cons rfl (Sub.cons rfl (Sub.cons rfl Sub.nil))), fun _ h => h.sel [1] (by decide) rfl⟩
      ·
        refine t1_a 6 rfl rfl (a_litI .i64 [i] Tryz.underlying24 zs3 rfl rfl rfl) ?_
        rintro _ _ ⟨g_22, rfl, rfl⟩
        refine ⟨.inr fun _ h => h.right (R' := [_]), ?_⟩
        refine wd_a 0 rfl (by kernel_rfl) rfl (a_litI .i64 [] Tryz.underlying24 zs3 rfl rfl rfl) ?_
        rintro _ _ ⟨g_24, rfl, rfl⟩
        refine ⟨.inr fun _ h => h.right (R' := [_]), ?_⟩
        refine wd_a 4 rfl (by kernel_rfl) rfl (a_appendI 0 rfl Tryz.underlying24 zb3 rfl rfl rfl (RdC.toI (rdr 2 rfl) (by omega)) (by omega)) ?_
        rintro _ _ ⟨A_25, c_26, rfl, rfl⟩
        refine ⟨.inl (by kernel_rfl), ?_⟩
        refine wd_rows (R1 := [⟨3, 1, A_25, (0 + ((j).toNat)), c_26, ints .i64 (([]) ++ ((U).take (j).toNat)), false⟩, ⟨3, 1, (some ⟨g_22, 0, none⟩), 1, 1, ints .i64 ([i]), false⟩, ⟨3, 1, A1, n1, c1, ints .i64 U, false⟩]) rfl ?_
        refine wd_as (v := .slice A_25 (0 + ((j).toNat)) c_26) rfl ?_
        refine wd_a 7 rfl (by kernel_rfl) rfl (a_appendI 0 rfl Tryz.underlying24 zb3 rfl rfl rfl (rdr 1 rfl) (by omega)) ?_
        rintro _ _ ⟨A_27, c_28, rfl, rfl⟩
        refine ⟨.inl (by kernel_rfl), ?_⟩
        refine wd_rows (R1 := [⟨3, 1, A_27, ((0 + ((j).toNat)) + 1), c_28, ints .i64 ((([]) ++ ((U).take (j).toNat)) ++ ([i])), false⟩, ⟨3, 1, (some ⟨g_22, 0, none⟩), 1, 1, ints .i64 ([i]), false⟩, ⟨3, 1, A1, n1, c1, ints .i64 U, false⟩]) rfl ?_
        refine wd_as (v := .slice A_27 ((0 + ((j).toNat)) + 1) c_28) rfl ?_
        refine wd_a 11 rfl (by kernel_rfl) rfl (a_appendI 0 rfl Tryz.underlying24 zb3 rfl rfl rfl (RdC.fromI (rdr 2 rfl) (by omega)) (by omega)) ?_
        rintro _ _ ⟨A_29, c_30, rfl, rfl⟩
        refine ⟨.inl (by kernel_rfl), ?_⟩
        refine wd_rows (R1 := [⟨3, 1, A_29, (((0 + ((j).toNat)) + 1) + (n1 - (j).toNat)), c_30, ints .i64 (((([]) ++ ((U).take (j).toNat)) ++ ([i])) ++ ((U).drop (j).toNat)), false⟩, ⟨3, 1, (some ⟨g_22, 0, none⟩), 1, 1, ints .i64 ([i]), false⟩, ⟨3, 1, A1, n1, c1, ints .i64 U, false⟩]) rfl ?_
        refine wd_as (v := .slice A_29 (((0 + ((j).toNat)) + 1) + (n1 - (j).toNat)) c_30) rfl ?_
        refine wd_y 12 rfl (by kernel_rfl) rfl (y_assign rfl) ?_
        refine wd_nil (by kernel_rfl) ?_
        refine w_reg ?_
        refine wr_y rfl (y_move rfl) ?_
        refine wr_y rfl (y_addI rfl rfl (by omega)) ?_
        refine wr_y rfl (y_assign rfl) ?_
        refine wr_nil ?_
        exact ⟨i + 1, A_29, ((0 + ((j).toNat)) + 1) + (n1 - (j).toNat), c_30, ((([]) ++ ((U).take (j).toNat)) ++ ([i])) ++ ((U).drop (j).toNat), ⟨(by omega), (by omega), (by simp only [List.length_append, List.length_take, List.length_drop, List.length_cons, List.length_nil]; omega), (hins.1), (hins.2)⟩, (by omega), (Sub.cons rfl (Sub.cons rfl (Sub.cons rfl Sub.nil))), fun _ h => h.sel [0] (by decide) rfl⟩
  ·
    refine w_exit ?_
    refine w_seq ?_
    refine w_reg ?_
    refine wr_y rfl (y_move rfl) ?_
    refine wr_y rfl (y_assign rfl) ?_
    refine wr_nil ?_
    refine w_retR (R1 := [⟨3, 1, A1, n1, c1, ints .i64 U, false⟩]) (fun _ h => h.sel [0] (by decide) rfl) ?_
    refine ⟨_, rfl, ?_⟩
    obtain rfl : n1 = s.length := by omega
    exact ⟨U, _, _, rfl, by have e : i.toNat = s.length := (by omega); rw [← e]; exact hp, hs, rfl⟩

set_option maxRecDepth 100000 in
theorem numbers13_ct {w : World} {A_u : Option Addr} {n_u c_u : Nat} {u : List Int} (h_u : Rd w A_u n_u c_u 1 (ints .u8 u)) (bh_u : ByteL u) (hN : u.length ≤ 1000000) :
    Ct Tryz.prog 74 #[.slice A_u n_u c_u] w.heap.size w [] (fun v R' => ∃ A c, v = .slice A (u).length c ∧ R' = [⟨3, 1, A, (u).length, c, ints .i64 (u), false⟩]) := by
  obtain rfl := h_u.lenI
  refine fn1 Tryz.func74 rfl rfl rfl ?_
  have m_u := h_u.max
  refine w_seq ?_
  refine w_reg ?_
  refine wr_y rfl (y_assign rfl) ?_
  refine wr_nil ?_
  refine w_seq ?_
  refine w_reg ?_
  refine wr_sub (R1 := [⟨3, 1, none, 0, 0, ints .i64 ([]), false⟩]) (Sub.refl _) (fun _ h => h.nil 3 1) ?_
  refine wr_y rfl (y_assign rfl) ?_
  refine wr_nil ?_
  refine w_seq ?_
  refine w_seq ?_
  refine w_reg ?_
  refine wr_y rfl (y_assign rfl) ?_
  refine wr_nil ?_
  refine w_block ?_
  refine w_loop5 (fun (A1 : Option Addr) (n1 : Nat) (c1 : Nat) (acc : List Int) (i : Int) => [(0, .slice A_u u.length c_u), (3, .slice A1 n1 c1), (4, .int .i64 i)]) (fun (A1 : Option Addr) (n1 : Nat) (c1 : Nat) (acc : List Int) (i : Int) => [⟨3, 1, A1, n1, c1, ints .i64 acc, false⟩]) (fun (A1 : Option Addr) (n1 : Nat) (c1 : Nat) (acc : List Int) (i : Int) => (n1 = acc.length) ∧ (0 ≤ i) ∧ (i ≤ u.length) ∧ (acc = u.take i.toNat)) (fun (A1 : Option Addr) (n1 : Nat) (c1 : Nat) (acc : List Int) (i : Int) => (u.length - i).toNat) ?_ ?_
  ·
    exact ⟨none, 0, 0, [], 0, ⟨(rfl), (by omega), (by omega), (rfl)⟩, (Sub.cons rfl (Sub.cons rfl (Sub.cons rfl Sub.nil))), fun _ h => h⟩
  intro A1 n1 c1 acc i ⟨hn1, hi0, hi1, hacc⟩
  refine w_seq ?_
  refine w_seq ?_
  refine w_reg ?_
  refine wr_y rfl (y_move rfl) ?_
  refine wr_y rfl (y_move rfl) ?_
  refine wr_y rfl (y_len Tryz.underlying23 rfl) ?_
  refine wr_y rfl (y_lt rfl rfl) ?_
  refine wr_nil ?_
  refine w_if rfl (fun hc1 => ?_) (fun hc1 => ?_)
  ·
    have hbi := bh_u.rd i
    refine w_skip ?_
    refine w_seq ?_
    refine w_block ?_
    refine w_reg ?_
    refine wr_y rfl (y_move rfl) ?_
    refine wr_y rfl (y_move rfl) ?_
    refine wr_y rfl (y_move rfl) ?_
    refine wr_y rfl (y_index1 Tryz.underlying23 sz5 rfl rfl (h_u.c _) (by omega) (by omega)) ?_
    refine wr_y rfl (y_ldI Tryz.underlying5 rfl rfl (h_u.c _) (by omega) (by omega)) ?_
    refine wr_y rfl (y_convI Tryz.underlying5 Tryz.underlying3 rfl (by omega)) ?_
    refine wr_a rfl (a_litI .i64 [rd u i] Tryz.underlying24 zs3 rfl rfl rfl) ?_
    rintro _ _ ⟨g_2, rfl, rfl⟩
    refine wr_a rfl (a_appendI 1 rfl Tryz.underlying24 zb3 rfl rfl rfl (rdr 0 rfl) (by have := congrArg List.length hacc; rw [List.length_take] at this; omega)) ?_
    rintro _ _ ⟨A_3, c_4, rfl, rfl⟩
    refine wr_rows (R1 := [⟨3, 1, (some ⟨g_2, 0, none⟩), 1, 1, ints .i64 ([rd u i]), false⟩, ⟨3, 1, A_3, (n1 + 1), c_4, ints .i64 (acc ++ ([rd u i])), false⟩]) rfl ?_
    refine wr_as (v := .slice A_3 (n1 + 1) c_4) rfl ?_
    refine wr_y rfl (y_assign rfl) ?_
    refine wr_nil ?_
    refine w_reg ?_
    refine wr_y rfl (y_move rfl) ?_
    refine wr_y rfl (y_addI rfl rfl (by omega)) ?_
    refine wr_y rfl (y_assign rfl) ?_
    refine wr_nil ?_
    exact ⟨A_3, n1 + 1, c_4, acc ++ ([rd u i]), i + 1, ⟨(by rw [List.length_append, hn1]; try rfl), (by omega), (by omega), (by rw [take_rd hi0 (by omega), hacc])⟩, (by omega), (Sub.cons rfl (Sub.cons rfl (Sub.cons rfl Sub.nil))), fun _ h => h.sel [1] (by decide) rfl⟩
  ·
    refine w_exit ?_
    refine w_seq ?_
    refine w_reg ?_
    refine wr_y rfl (y_move rfl) ?_
    refine wr_y rfl (y_assign rfl) ?_
    refine wr_nil ?_
    refine w_retR (R1 := [⟨3, 1, A1, n1, c1, ints .i64 acc, false⟩]) (fun _ h => h.sel [0] (by decide) rfl) ?_
    refine ⟨_, rfl, ?_⟩
    rw [List.take_of_length_le (by omega)] at hacc
    subst hacc
    obtain rfl := hn1
    exact ⟨_, _, rfl, rfl⟩

set_option maxRecDepth 100000 in
theorem bytes13_ct {w : World} {A_u : Option Addr} {n_u c_u : Nat} {u : List Int} (h_u : Rd w A_u n_u c_u 1 (ints .u8 u)) (bh_u : ByteL u) (hN : u.length ≤ 1000000) :
    Ct Tryz.prog 28 #[.slice A_u n_u c_u] w.heap.size w [] (fun v R' => ∃ (b : List Int) (A : Option Addr) (c : Nat), v = .slice A u.length c ∧ b.Perm (iota u.length) ∧ b.Pairwise (ordE u) ∧ R' = [⟨3, 1, A, u.length, c, ints .i64 b, false⟩]) := by
  obtain rfl := h_u.lenI
  refine fn1 Tryz.func28 rfl rfl rfl ?_
  have m_u := h_u.max
  refine w_seq ?_
  refine w_reg ?_
  refine wr_y rfl (y_assign rfl) ?_
  refine wr_nil ?_
  refine w_seq ?_
  refine w_reg ?_
  refine wr_y rfl (y_move rfl) ?_
  refine wr_a rfl (a_callF en74 rfl (Ct.fresh (fun w hw => numbers13_ct ((h_u.c _) w hw) (by first | assumption | omega | decide) (by first | assumption | omega | decide)))) ?_
  rintro _ _ ⟨_, rfl, A_1, c_2, rfl, rfl⟩
  refine wr_a rfl (a_callF en73 rfl (Ct.fresh (fun w hw => order13_ct ((rdr 0 rfl) w hw) (by first | assumption | omega | decide)))) ?_
  rintro _ _ ⟨_, rfl, b1, A_4, c_5, rfl, hp_b1, hs_b1, rfl⟩
  refine wr_y rfl (y_assign rfl) ?_
  refine wr_nil ?_
  refine w_retR (R1 := [⟨3, 1, A_4, u.length, c_5, ints .i64 b1, false⟩]) (fun _ h => h.sel [0] (by decide) rfl) ?_
  refine ⟨_, rfl, ?_⟩
  exact ⟨b1, _, _, rfl, hp_b1, hs_b1, rfl⟩

end Go.Proofs.YtipnciohgbjjhaaGreat

/-! ## S3 -/
namespace Go.Proofs
open Go.Shelf
def Tryz.lays264_ren : Go.Shelf.Ren := ⟨fun | 264 => 171 | n => n, fun | 53 => 167 | 46 => 161 | n => n, fun | n => n⟩
def Tryz.lays212_ren : Go.Shelf.Ren := ⟨fun | 212 => 100 | 263 => 170 | 264 => 171 | n => n, fun | 46 => 161 | 51 => 173 | 146 => 220 | 53 => 167 | 148 => 222 | n => n, fun | n => n⟩
theorem Tryz.lays212 : Go.Proofs.Lays.n212 Tryz.prog Tryz.lays212_ren := {
  mixed := by kernel_rfl
  f212 := Tryz.func100.trans (congrArg some (by kernel_rfl))
  f263 := Tryz.func170.trans (congrArg some (by kernel_rfl))
  f264 := Tryz.func171.trans (congrArg some (by kernel_rfl))
  t46 := Tryz.underlying161
  a46 := Tryz.isAgg161
  z46 := Tryz.sizeOf161
  v46 := Tryz.zeroValue161
  t51 := Tryz.underlying173
  a51 := Tryz.isAgg173
  z51 := Tryz.sizeOf173
  v51 := Tryz.zeroValue173
  t53 := Tryz.underlying167
  a53 := Tryz.isAgg167
  z53 := Tryz.sizeOf167
  v53 := Tryz.zeroValue167
  t146 := Tryz.underlying220
  a146 := Tryz.isAgg220
  z146 := Tryz.sizeOf220
  v146 := Tryz.zeroValue220
  t148 := Tryz.underlying222
  a148 := Tryz.isAgg222
  z148 := Tryz.sizeOf222
  v148 := Tryz.zeroValue222 }
open Go.RowKit Go.Lib in
/-- math/bits.Mul: "Mul returns the full-width product of x and y": on a machine of 64 bits: Mul64's. (LAID: no walk: one application.) -/
theorem Tryz.bits_Mul (x y : Nat) (hx : x < 18446744073709551616) (hy : y < 18446744073709551616) (w : World) :
    Calls Tryz.prog 100 #[.int .u64 x, .int .u64 y] w fun e w' => e = .returned (.tuple #[.int .u64 ((x * y / 18446744073709551616 : Nat) : Int), .int .u64 ((x * y % 18446744073709551616 : Nat) : Int)]) ∧ w' = w := Any.bits_Mul Tryz.lays212 x y hx hy w
end Go.Proofs

/-! ## E22 -/
namespace Go.Eng
open Go Go.RowKit
section
variable {P : Program} {n : Nd} {B : Nat} {w0 : World} {L : Env} {R : List Row} {ty : TypeId}
theorem cut_addr {g lo c : Nat} (h : lo < c) : cutA (some ⟨g, 0, none⟩) lo c 1 = some ⟨g, lo, none⟩ := by
  unfold cutA
  rw [if_neg (by omega), Nat.mul_one, Option.map_some]
  unfold Addr.add
  split <;> simp_all
/-- copy(r[lo:], x): r a row of the call's own. -/
theorem a_copyI {x y : Operand} {t t2 e : TypeId} {p : Option Addr} {lo dl dc m c m2 c2 : Nat} {A A2 : Option Addr} {k : IntKind} {l src : List Int} (i : Nat) (hi : R[i]? = some ⟨e, 1, A, m, c, ints k l, false⟩) (ht : P.underlying t = some (.slice e)) (hst : (P.info? e).map (·.size) = some 1)
    (hx : ev L x = some (.slice p dl dc)) (hy : ev L y = some (.slice A2 m2 c2)) (hp : p = cutA A lo c 1) (hdl : dl = m - lo) (hlo : lo < m) (hrd : RdC B w0 R A2 m2 c2 1 (ints k src)) :
    Ac P n B w0 (.call { callee := .builtin .copy, args := #[x, y], argTypes := #[t, t2] }) ty L R (fun v R' => v = .int .i64 ((min m2 (m - lo) : Nat) : Int) ∧ R' = R.set i ⟨e, 1, A, m, c, ints k (l.take lo ++ src.take (min m2 (m - lo)) ++ l.drop (lo + min m2 (m - lo))), false⟩) := by
  intro a w o K Q ho hty hs hw hk
  have hown := Row.lies_w (hw.own _ (List.mem_of_getElem? hi)) rfl
  have hr2 := hrd w hw
  have hm2 : m2 = src.length := hr2.lenI
  have hl : m = l.length := by have := hown.1; rw [ints_length] at this; simp only at this; omega
  rcases hown.2 with ⟨_, hn⟩ | ⟨g, cap, cur, hv, hb, hg, hnc, hcm, hcs, htk⟩
  · simp only at hn; omega
  simp only [Value.slice.injEq, true_and] at hv
  obtain ⟨rfl, rfl⟩ := hv
  simp only at htk hcs hnc hg hb
  rw [Nat.mul_one] at htk hcs
  have hp' : p = some ⟨g, lo, none⟩ := by rw [hp]; exact cut_addr (by omega)
  subst hp'
  subst hdl
  obtain ⟨q, hq⟩ : ∃ q, min m2 (m - lo) = q := ⟨_, rfl⟩
  rw [hq] at hk
  have hq' : Nat.min m2 (m - lo) = q := hq
  have hcl : (ints k (src.take q)).length = q := by rw [ints_length, List.length_take]; omega
  have hlen : (ints k l).length = m := by rw [ints_length]; omega
  rcases Nat.eq_zero_or_pos m2 with hz | hpos
  · have hq0 : q = 0 := by omega
    have hrun := run_copy_none (P := P) w t t2 o.type e (some ⟨g, lo, none⟩) A2 (m - lo) dc m2 c2 ht hst (by rw [hz]; exact Nat.zero_min _)
    unfold Oper.wp execOp
    simp only [ho, resolve, invoke, builtin, Sem.run_bind, Sem.run_pure, Result.andThen_ok, List.map_toArray, List.map_cons, List.map_nil, hs.ev hx, hs.ev hy, hrun, Oper.upon]
    refine hk (.int .i64 ((0 : Nat) : Int)) w R hw ⟨by rw [hq0], ?_⟩
    rw [hq0]
    simp only [List.take_zero, List.append_nil, Nat.add_zero, List.take_append_drop]
    exact (by
      apply List.ext_getElem?
      intro j
      rw [List.getElem?_set]
      split
      · rename_i e; subst e; rw [if_pos (List.getElem?_eq_some_iff.1 hi).1, hi]
      · rfl)
  · obtain ⟨a2, rfl⟩ : ∃ a2, A2 = some a2 := by
      obtain ⟨a2, h, _⟩ := hr2.at_ 0 _ (List.getElem?_eq_getElem (by rw [ints_length]; omega))
      exact ⟨a2, h⟩
    have hrun := run_copy_row P w t t2 o.type e g lo (m - lo) dc a2 m2 c2 cur e (ints k (src.take q)) ht hst hg (by rw [hcl]; exact hq.symm) (fun j v hv => by
      obtain ⟨b, h1, h2⟩ := hr2.at_ j v (by
        rw [ints, List.map_take] at hv
        rw [List.getElem?_take] at hv
        split at hv
        · exact hv
        · cases hv)
      obtain rfl := Option.some.inj h1
      exact h2) (by rw [hcl, hcs]; omega) (ints_one k _)
    rw [hcl] at hrun
    unfold Oper.wp execOp
    simp only [ho, resolve, invoke, builtin, Sem.run_bind, Sem.run_pure, Result.andThen_ok, List.map_toArray, List.map_cons, List.map_nil, hs.ev hx, hs.ev hy, hrun, Oper.upon]
    refine hk (.int .i64 (q : Int)) _ _ ?_ ⟨rfl, rfl⟩
    refine hw.upd hi (row := some g) ⟨rfl, rfl, rfl, by simp, fun j _ hj => setRow_other w g j _ (fun e => hj (by simp [e]))⟩ (Nat.le_refl _) (fun j hj => by cases hj; exact ⟨_, rfl, rfl⟩) ?_ (fun a' ha' => .inl ⟨a', ha', rfl⟩)
    unfold Row.lies
    simp only
    refine ⟨?_, .inr ⟨g, c, _, rfl, hb, setRow_heap w g cur _ e _ hg, hnc, hcm, ?_, ?_⟩⟩
    · simp only [ints_length, List.length_append, List.length_take, List.length_drop]; omega
    · simp only [List.size_toArray, List.length_append, List.length_take, List.length_drop, Array.length_toList, ints_length]; omega
    · simp only [Nat.mul_one]
      rw [ints_append, ints_append]
      have e1 : ints k (l.take lo) = cur.toList.take lo := by
        rw [ints, List.map_take]
        show (ints k l).take lo = _
        rw [← htk, List.take_take, Nat.min_eq_left (by omega)]
      have e2 : ints k (l.drop (lo + q)) = (cur.toList.drop (lo + q)).take (m - (lo + q)) := by
        rw [ints, List.map_drop]
        show (ints k l).drop (lo + q) = _
        rw [← htk, List.drop_take]
      rw [e1, e2]
      have h1 : (cur.toList.take lo ++ ints k (src.take q)).length = lo + q := by
        rw [List.length_append, hcl, List.length_take, Array.length_toList]; omega
      rw [List.take_append, h1, List.take_of_length_le (by omega)]
theorem cut_zero {A : Option Addr} {c : Nat} : A = cutA A 0 c 1 := by
  unfold cutA
  split
  · rfl
  · cases A with
    | none => rfl
    | some a => simp [Addr.add]
/-- What is one number again and again, so far. -/
def repl (v : Int) (p N : Nat) : List Int := List.replicate p v ++ List.replicate (N - p) 0
theorem repl_zero (v : Int) (N : Nat) : repl v 0 N = List.replicate N 0 := by simp [repl]
theorem repl_all (v : Int) (N : Nat) : repl v N N = List.replicate N v := by simp [repl]
theorem repl_take {v : Int} {p N : Nat} : (repl v p N).take p = List.replicate p v := by simp [repl]
theorem repl_copy {v : Int} {p q N : Nat} {src : List Int} (h : p + q ≤ N) (hs : src = List.replicate q v) : (repl v p N).take p ++ src ++ (repl v p N).drop (p + q) = repl v (p + q) N := by
  subst hs
  rw [repl_take]
  unfold repl
  rw [List.drop_append]
  simp only [List.length_replicate, List.drop_replicate, show p - (p + q) = 0 by omega, List.replicate_zero, List.nil_append, List.replicate_append_replicate]
  congr 2
  omega
end
end Go.Eng

/-! ## I1 -/
namespace Go.Proofs.YtipnciohgbjjhaaGreat
open Go Go.Eng Go.Pure
set_option linter.unusedVariables false
set_option maxRecDepth 100000 in
theorem equalI_ct {w : World} {A_l : Option Addr} {n_l c_l : Nat} {l : List Int} {A_m : Option Addr} {n_m c_m : Nat} {m : List Int} (h_l : Rd w A_l n_l c_l 1 (ints .i64 l)) (h_m : Rd w A_m n_m c_m 1 (ints .i64 m)) (hN : l.length ≤ 1000000) :
    Ct Tryz.prog 71 #[.slice A_l n_l c_l, .slice A_m n_m c_m] w.heap.size w [] (fun v R' => v = .bool (decide (l = m))) := by
  obtain rfl := h_l.lenI
  obtain rfl := h_m.lenI
  refine fn1 Tryz.func71 rfl rfl rfl ?_
  have m_l := h_l.max
  have m_m := h_m.max
  refine w_seq ?_
  refine w_reg ?_
  refine wr_y rfl (y_assign rfl) ?_
  refine wr_nil ?_
  refine w_seq ?_
  refine w_seq ?_
  refine w_reg ?_
  refine wr_y rfl (y_move rfl) ?_
  refine wr_y rfl (y_len Tryz.underlying24 rfl) ?_
  refine wr_y rfl (y_move rfl) ?_
  refine wr_y rfl (y_len Tryz.underlying24 rfl) ?_
  refine wr_y rfl (y_ne rfl rfl) ?_
  refine wr_nil ?_
  refine w_if rfl (fun hc1 => ?_) (fun hc1 => ?_)
  ·
    refine w_seq ?_
    refine w_reg ?_
    refine wr_y rfl (y_assign rfl) ?_
    refine wr_nil ?_
    refine w_ret ?_
    refine ⟨_, rfl, ?_⟩
    exact congrArg Value.bool (decide_eq_false (fun e => by rw [e] at hc1; exact hc1 rfl)).symm
  ·
    refine w_skip ?_
    refine w_seq ?_
    refine w_seq ?_
    refine w_reg ?_
    refine wr_y rfl (y_move rfl) ?_
    refine wr_y rfl (y_len Tryz.underlying24 rfl) ?_
    refine wr_y rfl (y_move rfl) ?_
    refine wr_nil ?_
    refine w_block ?_
    refine w_loop1 (fun (k : Int) => [(0, .slice A_l l.length c_l), (1, .slice A_m m.length c_m), (12, .int .i64 ((l.length : Nat) : Int)), (13, .int .i64 k)]) (fun (k : Int) => []) (fun (k : Int) => (0 ≤ k) ∧ (k ≤ l.length) ∧ (l.take k.toNat = m.take k.toNat)) (fun (k : Int) => (l.length - k).toNat) ?_ ?_
    ·
      exact ⟨0, ⟨(by omega), (by omega), (rfl)⟩, (Sub.cons rfl (Sub.cons rfl (Sub.cons rfl (Sub.cons rfl Sub.nil)))), fun _ h => h⟩
    intro k ⟨hk0, hk1, hq⟩
    refine w_seq ?_
    refine w_reg ?_
    refine wr_y rfl (y_lt rfl rfl) ?_
    refine wr_nil ?_
    refine w_seq ?_
    refine w_if rfl (fun hc2 => ?_) (fun hc2 => ?_)
    ·
      refine w_skip ?_
      refine w_seq ?_
      refine w_block ?_
      refine w_seq ?_
      refine w_reg ?_
      refine wr_y rfl (y_move rfl) ?_
      refine wr_y rfl (y_assign rfl) ?_
      refine wr_nil ?_
      refine w_seq ?_
      refine w_regd mixed ?_
      refine wd_y 0 rfl (by kernel_rfl) rfl (y_move rfl) ?_
      refine wd_y 1 rfl (by kernel_rfl) rfl (y_move rfl) ?_
      refine wd_y 2 rfl (by kernel_rfl) rfl (y_index1 Tryz.underlying24 sz3 rfl rfl (h_l.c _) (by omega) (by omega)) ?_
      refine wd_y 3 rfl (by kernel_rfl) rfl (y_ldI Tryz.underlying3 rfl rfl (h_l.c _) (by omega) (by omega)) ?_
      refine wd_y 4 rfl (by kernel_rfl) rfl (y_move rfl) ?_
      refine wd_y 5 rfl (by kernel_rfl) rfl (y_move rfl) ?_
      refine wd_y 6 rfl (by kernel_rfl) rfl (y_index1 Tryz.underlying24 sz3 rfl rfl (h_m.c _) (by omega) (by omega)) ?_
      refine wd_y 7 rfl (by kernel_rfl) rfl (y_ldI Tryz.underlying3 rfl rfl (h_m.c _) (by omega) (by omega)) ?_
      refine wd_y 8 rfl (by kernel_rfl) rfl (y_ne rfl rfl) ?_
      refine wd_nil (by kernel_rfl) ?_
      refine w_if rfl (fun hc3 => ?_) (fun hc3 => ?_)
      ·
        refine w_seq ?_
        refine w_reg ?_
        refine wr_y rfl (y_assign rfl) ?_
        refine wr_nil ?_
        refine w_ret ?_
        refine ⟨_, rfl, ?_⟩
        exact congrArg Value.bool (decide_eq_false (fun e => by subst e; exact hc3 rfl)).symm
      ·
        refine w_skip ?_
        refine w_reg ?_
        refine wr_y rfl (y_addI rfl rfl (by omega)) ?_
        refine wr_y rfl (y_move rfl) ?_
        refine wr_nil ?_
        exact ⟨k + 1, ⟨(by omega), (by omega), (by rw [take_rd hk0 (by omega), take_rd hk0 (by omega), hq]; exact congrArg (fun z => List.take k.toNat m ++ [z]) (Decidable.not_not.1 (by assumption)))⟩, (by omega), (Sub.cons rfl (Sub.cons rfl (Sub.cons rfl (Sub.cons rfl Sub.nil)))), fun _ h => h⟩
    ·
      refine w_exit ?_
      refine w_seq ?_
      refine w_reg ?_
      refine wr_y rfl (y_assign rfl) ?_
      refine wr_nil ?_
      refine w_ret ?_
      refine ⟨_, rfl, ?_⟩
      exact congrArg Value.bool (decide_eq_true (by rw [List.take_of_length_le (by omega), List.take_of_length_le (by omega)] at hq; exact hq)).symm

theorem mul_ct {B : Nat} {w0 : World} {R : List Row} (N : Nat) (h : N ≤ 1000000) : Ct Tryz.prog 100 #[.int .u64 1, .int .u64 ((N : Nat) : Int)] B w0 R (fun v R' => v = .tuple #[.int .u64 0, .int .u64 ((N : Nat) : Int)] ∧ R' = R) := by
  intro w hw
  have hc := Tryz.bits_Mul 1 N (by omega) (by omega) w
  rw [Nat.one_mul, Nat.div_eq_of_lt (by omega), Nat.mod_eq_of_lt (by omega)] at hc
  refine hc.mono ?_
  rintro e w' ⟨rfl, rfl⟩
  exact ⟨_, R, rfl, hw, rfl, rfl⟩
theorem wrap_u64N {p : Int} (h : 0 ≤ p ∧ p ≤ 18446744073709551615) : IntKind.u64.wrap p = p := by rw [IntKind.wrap_u64]; omega
theorem rep_step {D : List Int} {val : Int} {N : Nat} {p : Int} (p1 : 1 ≤ p) (hp : p ≤ N) (hD : D = repl val p.toNat N) :
    List.take p.toNat D ++ List.take (min p.toNat (N - p.toNat)) (List.take p.toNat D) ++ List.drop (p.toNat + min p.toNat (N - p.toNat)) D = repl val (p + ((min p.toNat (N - p.toNat) : Nat) : Int)).toNat N := by
  subst hD
  rw [show (p + ((min p.toNat (N - p.toNat) : Nat) : Int)).toNat = p.toNat + min p.toNat (N - p.toNat) by omega]
  refine repl_copy (by omega) ?_
  rw [repl_take, List.take_replicate]
  congr 1
  omega
theorem rep_init {val : Int} {N : Nat} (h : 1 ≤ N) : List.take 0 (List.replicate N (0 : Int)) ++ List.take (min ([val].length) (N - 0)) [val] ++ List.drop (0 + min ([val].length) (N - 0)) (List.replicate N (0 : Int)) = repl val (((min ([val].length) (N - 0) : Nat) : Int)).toNat N := by
  have e : min ([val].length) (N - 0) = 1 := by simp; omega
  rw [e, ← repl_zero val N]
  exact repl_copy (p := 0) (q := 1) (by omega) rfl
set_option maxRecDepth 100000 in
set_option maxHeartbeats 800000 in
theorem repeatI_ct {w : World} {A_x : Option Addr} {n_x c_x : Nat} {x : List Int} {cn : Int} {val : Int} {N : Nat} (h_x : Rd w A_x n_x c_x 1 (ints .i64 x)) (hx : x = [val]) (hcn : cn = ((N : Nat) : Int)) (hN : 1 ≤ N ∧ N ≤ 1000000) :
    Ct Tryz.prog 340 #[.slice A_x n_x c_x, .int .i64 cn] w.heap.size w [] (fun v R' => ∃ A c, v = .slice A N c ∧ R' = [⟨3, 1, A, N, c, ints .i64 (List.replicate N val), false⟩]) := by
  obtain rfl := h_x.lenI
  refine fn1 Tryz.func340 rfl rfl rfl ?_
  have m_x := h_x.max
  refine w_seq ?_
  refine w_reg ?_
  refine wr_y rfl (y_assign rfl) ?_
  refine wr_nil ?_
  refine w_seq ?_
  refine w_seq ?_
  refine w_reg ?_
  refine wr_y rfl (y_move rfl) ?_
  refine wr_y rfl (Yl.f (y_lt rfl rfl) (by omega)) ?_
  refine wr_nil ?_
  refine w_false rfl ?_
  refine w_skip ?_
  refine w_seq ?_
  refine w_reg ?_
  refine wr_y rfl (y_move rfl) ?_
  refine wr_y rfl (y_len Tryz.underlying24 rfl) ?_
  refine wr_y rfl (Yl.is (y_conv Tryz.underlying3 Tryz.underlying161 rfl) (by rw [hx])) ?_
  refine wr_y rfl (y_move rfl) ?_
  refine wr_y rfl (Yl.is (y_conv Tryz.underlying3 Tryz.underlying161 rfl) (by rw [wrap_u64N (by omega), hcn])) ?_
  refine wr_a rfl (a_callF en100 rfl (mul_ct N hN.2)) ?_
  rintro _ _ ⟨rfl, rfl⟩
  refine wr_y rfl (y_move rfl) ?_
  refine wr_y rfl (y_extract rfl rfl) ?_
  refine wr_y rfl (y_extract rfl rfl) ?_
  refine wr_y rfl (y_assign rfl) ?_
  refine wr_y rfl (y_assign rfl) ?_
  refine wr_nil ?_
  refine w_seq ?_
  refine w_seq ?_
  refine w_reg ?_
  refine wr_y rfl (y_move rfl) ?_
  refine wr_y rfl (Yl.f (y_gt rfl rfl) (by omega)) ?_
  refine wr_y rfl (y_move rfl) ?_
  refine wr_yes rfl rfl ?_
  refine wr_y rfl (y_move rfl) ?_
  refine wr_yes rfl rfl ?_
  refine wr_y rfl (Yl.f (y_gt rfl rfl) (by omega)) ?_
  refine wr_y rfl (y_pickF rfl rfl) ?_
  refine wr_nil ?_
  refine w_false rfl ?_
  refine w_skip ?_
  refine w_seq ?_
  refine w_reg ?_
  refine wr_y rfl (y_move rfl) ?_
  refine wr_y rfl (y_convI Tryz.underlying161 Tryz.underlying3 rfl (by omega)) ?_
  refine wr_a rfl (a_makeN Tryz.underlying24 zb3 rfl rfl (by omega) (by omega) (by omega)) ?_
  rintro _ _ ⟨g_1, rfl, rfl⟩
  refine wr_rows (R1 := [⟨3, 1, (some ⟨g_1, 0, none⟩), N, N, ints .i64 (List.replicate N (0 : Int)), false⟩]) rfl ?_
  refine wr_as (v := .slice (some ⟨g_1, 0, none⟩) N N) rfl ?_
  refine wr_y rfl (y_assign rfl) ?_
  refine wr_nil ?_
  refine w_seq ?_
  refine w_reg ?_
  refine wr_y rfl (y_move rfl) ?_
  refine wr_y rfl (y_move rfl) ?_
  refine wr_a rfl (a_copyI (lo := 0) 0 rfl Tryz.underlying24 sz3 rfl rfl cut_zero rfl (by omega) (h_x.c _)) ?_
  rintro _ _ ⟨rfl, rfl⟩
  refine wr_rows (R1 := [⟨3, 1, (some ⟨g_1, 0, none⟩), N, N, ints .i64 (List.take 0 (List.replicate N (0 : Int)) ++ List.take (min x.length (N - 0)) x ++ List.drop (0 + min x.length (N - 0)) (List.replicate N (0 : Int))), false⟩]) rfl ?_
  refine wr_y rfl (y_assign rfl) ?_
  refine wr_nil ?_
  refine w_seq ?_
  refine w_block ?_
  refine w_loop2 (fun (p : Int) (D : List Int) => [(7, .slice (some ⟨g_1, 0, none⟩) N N), (8, .int .i64 p)]) (fun (p : Int) (D : List Int) => [⟨3, 1, (some ⟨g_1, 0, none⟩), N, N, ints .i64 D, false⟩]) (fun (p : Int) (D : List Int) => (1 ≤ p) ∧ (p ≤ N) ∧ (D = repl val p.toNat N)) (fun (p : Int) (D : List Int) => (N - p).toNat) ?_ ?_
  ·
    exact ⟨((min x.length (N - 0) : Nat) : Int), List.take 0 (List.replicate N (0 : Int)) ++ List.take (min x.length (N - 0)) x ++ List.drop (0 + min x.length (N - 0)) (List.replicate N (0 : Int)), ⟨(by subst hx; simp; omega), (by omega), (by subst hx; exact rep_init hN.1)⟩, (Sub.cons rfl (Sub.cons rfl Sub.nil)), fun _ h => h⟩
  intro p D ⟨hp0, hp1, hD⟩
  refine w_seq ?_
  refine w_seq ?_
  refine w_reg ?_
  refine wr_y rfl (y_move rfl) ?_
  refine wr_y rfl (y_move rfl) ?_
  refine wr_y rfl (y_len Tryz.underlying24 rfl) ?_
  refine wr_y rfl (y_lt rfl rfl) ?_
  refine wr_nil ?_
  refine w_if rfl (fun hc1 => ?_) (fun hc1 => ?_)
  ·
    refine w_skip ?_
    refine w_block ?_
    refine w_regd mixed ?_
    refine wd_y 0 rfl (by kernel_rfl) rfl (y_move rfl) ?_
    refine wd_y 1 rfl (by kernel_rfl) rfl (y_move rfl) ?_
    refine wd_y 2 rfl (by kernel_rfl) rfl (y_move rfl) ?_
    refine wd_y 3 rfl (by kernel_rfl) rfl (y_sliceFrom Tryz.underlying24 sz3 rfl rfl (by omega) (by omega)) ?_
    refine wd_y 4 rfl (by kernel_rfl) rfl (y_move rfl) ?_
    refine wd_y 5 rfl (by kernel_rfl) rfl (y_move rfl) ?_
    refine wd_y 6 rfl (by kernel_rfl) rfl (y_sliceTo Tryz.underlying24 sz3 rfl rfl (rdr 0 rfl) (by omega) (by omega)) ?_
    refine wd_a 7 rfl (by kernel_rfl) rfl (a_copyI (lo := p.toNat) 0 rfl Tryz.underlying24 sz3 rfl rfl rfl rfl (by omega) (RdC.toI (rdr 0 rfl) (by omega))) ?_
    rintro _ _ ⟨rfl, rfl⟩
    refine ⟨.inl (by kernel_rfl), ?_⟩
    refine wd_rows (R1 := [⟨3, 1, (some ⟨g_1, 0, none⟩), N, N, ints .i64 (List.take p.toNat D ++ List.take (min ((p).toNat) (N - p.toNat)) ((D).take (p).toNat) ++ List.drop (p.toNat + min ((p).toNat) (N - p.toNat)) D), false⟩]) rfl ?_
    refine wd_y 8 rfl (by kernel_rfl) rfl (y_addI rfl rfl (by omega)) ?_
    refine wd_y 9 rfl (by kernel_rfl) rfl (y_assign rfl) ?_
    refine wd_nil (by kernel_rfl) ?_
    exact ⟨p + ((min ((p).toNat) (N - p.toNat) : Nat) : Int), List.take p.toNat D ++ List.take (min ((p).toNat) (N - p.toNat)) ((D).take (p).toNat) ++ List.drop (p.toNat + min ((p).toNat) (N - p.toNat)) D, ⟨(by omega), (by omega), (rep_step hp0 hp1 hD)⟩, (by omega), (Sub.cons rfl (Sub.cons rfl Sub.nil)), fun _ h => h⟩
  ·
    refine w_exit ?_
    refine w_seq ?_
    refine w_reg ?_
    refine wr_y rfl (y_move rfl) ?_
    refine wr_y rfl (y_assign rfl) ?_
    refine wr_nil ?_
    refine w_retR (R1 := [⟨3, 1, (some ⟨g_1, 0, none⟩), N, N, ints .i64 D, false⟩]) (fun _ h => h.sel [0] (by decide) rfl) ?_
    refine ⟨_, rfl, ?_⟩
    obtain rfl : D = List.replicate N val := by rw [hD, show p.toNat = N by omega]; exact repl_all _ _
    exact ⟨_, _, rfl, rfl⟩

set_option maxRecDepth 100000 in
set_option maxHeartbeats 600000 in
theorem small_ct {w : World} {A_s : Option Addr} {n_s c_s : Nat} {s : List Int} (h_s : Rd w A_s n_s c_s 1 (ints .i64 s)) (hN : s.length ≤ 1000000) :
    Ct Tryz.prog 337 #[.slice A_s n_s c_s] w.heap.size w [] (fun v R' => ∃ A c, v = .slice A s.length c ∧ R' = [⟨4, 1, A, s.length, c, bools (smL s), false⟩]) := by
  obtain rfl := h_s.lenI
  refine fn1 Tryz.func337 rfl rfl rfl ?_
  have m_s := h_s.max
  refine w_seq ?_
  refine w_reg ?_
  refine wr_y rfl (y_assign rfl) ?_
  refine wr_nil ?_
  refine w_seq ?_
  refine w_reg ?_
  refine wr_y rfl (y_move rfl) ?_
  refine wr_y rfl (y_len Tryz.underlying24 rfl) ?_
  refine wr_a rfl (a_makeB Tryz.underlying215 zb4 rfl rfl (by omega) (by omega) (by omega)) ?_
  rintro _ _ ⟨g_1, rfl, rfl⟩
  refine wr_rows (R1 := [⟨4, 1, (some ⟨g_1, 0, none⟩), s.length, s.length, bools (List.replicate s.length false), false⟩]) rfl ?_
  refine wr_as (v := .slice (some ⟨g_1, 0, none⟩) s.length s.length) rfl ?_
  refine wr_y rfl (y_assign rfl) ?_
  refine wr_nil ?_
  refine w_seq ?_
  refine w_seq ?_
  refine w_reg ?_
  refine wr_y rfl (y_move rfl) ?_
  refine wr_y rfl (y_len Tryz.underlying24 rfl) ?_
  refine wr_y rfl (y_subI rfl rfl (by omega)) ?_
  refine wr_y rfl (y_assign rfl) ?_
  refine wr_nil ?_
  refine w_block ?_
  refine w_loop2 (fun (i : Int) (m : List Bool) => [(0, .slice A_s s.length c_s), (3, .slice (some ⟨g_1, 0, none⟩) s.length s.length), (4, .int .i64 i)]) (fun (i : Int) (m : List Bool) => [⟨4, 1, (some ⟨g_1, 0, none⟩), s.length, s.length, bools m, false⟩]) (fun (i : Int) (m : List Bool) => (-2 ≤ i) ∧ (i + 2 ≤ s.length) ∧ (m.length = s.length) ∧ (∀ j : Int, 0 ≤ j → i < j → j < s.length → rdb m j = smB s j)) (fun (i : Int) (m : List Bool) => (i + 1).toNat) ?_ ?_
  ·
    exact ⟨((s.length : Nat) : Int) - 2, List.replicate s.length false, ⟨(by omega), (by omega), (by rw [List.length_replicate]), (fun j h0 h1 h2 => by rw [rdb_rep, smB_last h0 (by omega)])⟩, (Sub.cons rfl (Sub.cons rfl (Sub.cons rfl Sub.nil))), fun _ h => h⟩
  intro i m ⟨hi0, hi1, hl, hM⟩
  refine w_seq ?_
  refine w_seq ?_
  refine w_reg ?_
  refine wr_y rfl (y_move rfl) ?_
  refine wr_y rfl (y_ge rfl rfl) ?_
  refine wr_nil ?_
  refine w_if rfl (fun hc1 => ?_) (fun hc1 => ?_)
  ·
    refine w_skip ?_
    refine w_seq ?_
    refine w_block ?_
    refine w_regd mixed ?_
    refine wd_y 0 rfl (by kernel_rfl) rfl (y_move rfl) ?_
    refine wd_y 1 rfl (by kernel_rfl) rfl (y_move rfl) ?_
    refine wd_y 2 rfl (by kernel_rfl) rfl (y_move rfl) ?_
    refine wd_y 3 rfl (by kernel_rfl) rfl (y_move rfl) ?_
    refine wd_y 4 rfl (by kernel_rfl) rfl (y_index1 Tryz.underlying24 sz3 rfl rfl (h_s.c _) (by omega) (by omega)) ?_
    refine wd_y 5 rfl (by kernel_rfl) rfl (y_ldI Tryz.underlying3 rfl rfl (h_s.c _) (by omega) (by omega)) ?_
    refine wd_y 6 rfl (by kernel_rfl) rfl (y_move rfl) ?_
    refine wd_y 7 rfl (by kernel_rfl) rfl (y_move rfl) ?_
    refine wd_y 8 rfl (by kernel_rfl) rfl (y_addI rfl rfl (by omega)) ?_
    refine wd_y 9 rfl (by kernel_rfl) rfl (y_index1 Tryz.underlying24 sz3 rfl rfl (h_s.c _) (by omega) (by omega)) ?_
    refine wd_y 10 rfl (by kernel_rfl) rfl (y_ldI Tryz.underlying3 rfl rfl (h_s.c _) (by omega) (by omega)) ?_
    refine wd_y 11 rfl (by kernel_rfl) rfl (y_lt rfl rfl) ?_
    refine wd_y 12 rfl (by kernel_rfl) rfl (y_move rfl) ?_
    refine wd_case 27 rfl (fun hc2 => ?_) (fun hc2 => ?_)
    ·
      refine wd_no 13 rfl (by kernel_rfl) rfl rfl rfl rfl ?_
      refine wd_no 14 rfl (by kernel_rfl) rfl rfl rfl rfl ?_
      refine wd_no 15 rfl (by kernel_rfl) rfl rfl rfl rfl ?_
      refine wd_no 16 rfl (by kernel_rfl) rfl rfl rfl rfl ?_
      refine wd_no 17 rfl (by kernel_rfl) rfl rfl rfl rfl ?_
      refine wd_no 18 rfl (by kernel_rfl) rfl rfl rfl rfl ?_
      refine wd_no 19 rfl (by kernel_rfl) rfl rfl rfl rfl ?_
      refine wd_no 20 rfl (by kernel_rfl) rfl rfl rfl rfl ?_
      refine wd_no 21 rfl (by kernel_rfl) rfl rfl rfl rfl ?_
      refine wd_no 22 rfl (by kernel_rfl) rfl rfl rfl rfl ?_
      refine wd_no 23 rfl (by kernel_rfl) rfl rfl rfl rfl ?_
      refine wd_nou 24 rfl (by kernel_rfl) rfl rfl rfl ?_
      refine wd_nou 25 rfl (by kernel_rfl) rfl rfl rfl ?_
      refine wd_nou 26 rfl (by kernel_rfl) rfl rfl rfl ?_
      refine wd_nou 27 rfl (by kernel_rfl) rfl rfl rfl ?_
      refine wd_nou 28 rfl (by kernel_rfl) rfl rfl rfl ?_
      refine wd_no 29 rfl (by kernel_rfl) rfl rfl rfl rfl ?_
      refine wd_y 30 rfl (by kernel_rfl) rfl (y_pickT rfl rfl) ?_
      refine wd_y 31 rfl (by kernel_rfl) rfl (y_index1 Tryz.underlying215 sz4 rfl rfl (rdr 0 rfl) (by omega) (by omega)) ?_
      refine wd_n 32 rfl (by kernel_rfl) (a_storeB 0 rfl sz4 rfl rfl (by omega) (by omega)) ?_
      rintro _ _ rfl
      refine ⟨.inl (by kernel_rfl), ?_⟩
      refine wd_rows (R1 := [⟨4, 1, (some ⟨g_1, 0, none⟩), s.length, s.length, bools (updB m i true), false⟩]) rfl ?_
      refine wd_nil (by kernel_rfl) ?_
      refine w_reg ?_
      refine wr_y rfl (y_move rfl) ?_
      refine wr_y rfl (y_subI rfl rfl (by omega)) ?_
      refine wr_y rfl (y_assign rfl) ?_
      refine wr_nil ?_
      exact ⟨i - 1, updB m i true, ⟨(by omega), (by omega), (by rw [updB_len]; exact hl), (fun j h0 h1 h2 => sm_step (by omega) (by omega) hl (fun j a b => hM j (by omega) a b) (⟨fun _ => .inl (by omega), fun _ => rfl⟩) j (by omega) h2)⟩, (by omega), (Sub.cons rfl (Sub.cons rfl (Sub.cons rfl Sub.nil))), fun _ h => h⟩
    ·
      refine wd_yg 13 rfl (by kernel_rfl) rfl rfl rfl (y_move rfl) ?_
      refine wd_yg 14 rfl (by kernel_rfl) rfl rfl rfl (y_move rfl) ?_
      refine wd_yg 15 rfl (by kernel_rfl) rfl rfl rfl (y_index1 Tryz.underlying24 sz3 rfl rfl (h_s.c _) (by omega) (by omega)) ?_
      refine wd_yg 16 rfl (by kernel_rfl) rfl rfl rfl (y_ldI Tryz.underlying3 rfl rfl (h_s.c _) (by omega) (by omega)) ?_
      refine wd_yg 17 rfl (by kernel_rfl) rfl rfl rfl (y_move rfl) ?_
      refine wd_yg 18 rfl (by kernel_rfl) rfl rfl rfl (y_move rfl) ?_
      refine wd_yg 19 rfl (by kernel_rfl) rfl rfl rfl (y_addI rfl rfl (by omega)) ?_
      refine wd_yg 20 rfl (by kernel_rfl) rfl rfl rfl (y_index1 Tryz.underlying24 sz3 rfl rfl (h_s.c _) (by omega) (by omega)) ?_
      refine wd_yg 21 rfl (by kernel_rfl) rfl rfl rfl (y_ldI Tryz.underlying3 rfl rfl (h_s.c _) (by omega) (by omega)) ?_
      refine wd_yg 22 rfl (by kernel_rfl) rfl rfl rfl (y_eq rfl rfl) ?_
      refine wd_yg 23 rfl (by kernel_rfl) rfl rfl rfl (y_move rfl) ?_
      refine wd_case 38 rfl (fun hc3 => ?_) (fun hc3 => ?_)
      ·
        refine wd_yg 24 rfl (by kernel_rfl) rfl rfl rfl (y_move rfl) ?_
        refine wd_yg 25 rfl (by kernel_rfl) rfl rfl rfl (y_move rfl) ?_
        refine wd_yg 26 rfl (by kernel_rfl) rfl rfl rfl (y_addI rfl rfl (by omega)) ?_
        refine wd_yg 27 rfl (by kernel_rfl) rfl rfl rfl (y_index1 Tryz.underlying215 sz4 rfl rfl (rdr 0 rfl) (by omega) (by omega)) ?_
        refine wd_yg 28 rfl (by kernel_rfl) rfl rfl rfl (y_ldB Tryz.underlying4 rfl rfl (rdr 0 rfl) (by omega) (by omega)) ?_
        refine wd_yg 29 rfl (by kernel_rfl) rfl rfl rfl (y_pickT rfl rfl) ?_
        refine wd_y 30 rfl (by kernel_rfl) rfl (y_pickF rfl rfl) ?_
        refine wd_y 31 rfl (by kernel_rfl) rfl (y_index1 Tryz.underlying215 sz4 rfl rfl (rdr 0 rfl) (by omega) (by omega)) ?_
        refine wd_n 32 rfl (by kernel_rfl) (a_storeB 0 rfl sz4 rfl rfl (by omega) (by omega)) ?_
        rintro _ _ rfl
        refine ⟨.inl (by kernel_rfl), ?_⟩
        refine wd_rows (R1 := [⟨4, 1, (some ⟨g_1, 0, none⟩), s.length, s.length, bools (updB m i (decide (rdb m (i + 1) = true))), false⟩]) rfl ?_
        refine wd_nil (by kernel_rfl) ?_
        refine w_reg ?_
        refine wr_y rfl (y_move rfl) ?_
        refine wr_y rfl (y_subI rfl rfl (by omega)) ?_
        refine wr_y rfl (y_assign rfl) ?_
        refine wr_nil ?_
        exact ⟨i - 1, updB m i (decide (rdb m (i + 1) = true)), ⟨(by omega), (by omega), (by rw [updB_len]; exact hl), (fun j h0 h1 h2 => sm_step (by omega) (by omega) hl (fun j a b => hM j (by omega) a b) (by rw [decide_eq_true_iff]; exact ⟨fun h => .inr ⟨by omega, h⟩, fun h => (h.resolve_left (by omega)).2⟩) j (by omega) h2)⟩, (by omega), (Sub.cons rfl (Sub.cons rfl (Sub.cons rfl Sub.nil))), fun _ h => h⟩
      ·
        refine wd_no 24 rfl (by kernel_rfl) rfl rfl rfl rfl ?_
        refine wd_no 25 rfl (by kernel_rfl) rfl rfl rfl rfl ?_
        refine wd_no 26 rfl (by kernel_rfl) rfl rfl rfl rfl ?_
        refine wd_no 27 rfl (by kernel_rfl) rfl rfl rfl rfl ?_
        refine wd_no 28 rfl (by kernel_rfl) rfl rfl rfl rfl ?_
        refine wd_yg 29 rfl (by kernel_rfl) rfl rfl rfl (y_pickF rfl rfl) ?_
        refine wd_y 30 rfl (by kernel_rfl) rfl (y_pickF rfl rfl) ?_
        refine wd_y 31 rfl (by kernel_rfl) rfl (y_index1 Tryz.underlying215 sz4 rfl rfl (rdr 0 rfl) (by omega) (by omega)) ?_
        refine wd_n 32 rfl (by kernel_rfl) (a_storeB 0 rfl sz4 rfl rfl (by omega) (by omega)) ?_
        rintro _ _ rfl
        refine ⟨.inl (by kernel_rfl), ?_⟩
        refine wd_rows (R1 := [⟨4, 1, (some ⟨g_1, 0, none⟩), s.length, s.length, bools (updB m i false), false⟩]) rfl ?_
        refine wd_nil (by kernel_rfl) ?_
        refine w_reg ?_
        refine wr_y rfl (y_move rfl) ?_
        refine wr_y rfl (y_subI rfl rfl (by omega)) ?_
        refine wr_y rfl (y_assign rfl) ?_
        refine wr_nil ?_
        exact ⟨i - 1, updB m i false, ⟨(by omega), (by omega), (by rw [updB_len]; exact hl), (fun j h0 h1 h2 => sm_step (by omega) (by omega) hl (fun j a b => hM j (by omega) a b) (⟨fun h => (by cases h), fun h => absurd h (by omega)⟩) j (by omega) h2)⟩, (by omega), (Sub.cons rfl (Sub.cons rfl (Sub.cons rfl Sub.nil))), fun _ h => h⟩
  ·
    refine w_exit ?_
    refine w_seq ?_
    refine w_reg ?_
    refine wr_y rfl (y_move rfl) ?_
    refine wr_y rfl (y_assign rfl) ?_
    refine wr_nil ?_
    refine w_retR (R1 := [⟨4, 1, (some ⟨g_1, 0, none⟩), s.length, s.length, bools m, false⟩]) (fun _ h => h.sel [0] (by decide) rfl) ?_
    refine ⟨_, rfl, ?_⟩
    obtain rfl : m = smL s := smL_of hl fun j h0 h1 => hM j h0 (by omega) h1
    exact ⟨_, _, rfl, rfl⟩

theorem fst_yes {s : List Int} {i : Int} (h0 : 0 ≤ i) (hi : i < s.length) (h1 : 0 < i) (h2 : rdb (smL s) i = true) (h3 : ¬ rdb (smL s) (i - 1) = true) : fstB s i = true := by
  rw [rdb_smL h0 hi] at h2
  rw [rdb_smL (by omega) (by omega)] at h3
  exact fstB_iff.2 ⟨h1, h2, by simpa using h3⟩
theorem fst_no {s : List Int} {i : Int} (h0 : 0 ≤ i) (hi : i < s.length) (h : ¬ (0 < i ∧ rdb (smL s) i = true ∧ ¬ rdb (smL s) (i - 1) = true)) : ¬ fstB s i = true := fun e => by
  obtain ⟨h1, h2, h3⟩ := fstB_iff.1 e
  exact h ⟨h1, by rw [rdb_smL h0 hi]; exact h2, by rw [rdb_smL (by omega) (by omega), h3]; simp⟩
theorem fstP_one (s : List Int) : fstP s 1 = [] := by
  show fstP s (0 + 1) = []
  rw [fstP_step (by omega), if_neg (fun h => by have := (fstB_iff.1 h).1; omega)]
  rfl
theorem fstP_end {s : List Int} {i : Int} (h : i = s.length ∨ i = 1 ∧ s.length = 0) : fstP s i = fstL s := by
  rcases h with rfl | ⟨rfl, h⟩
  · exact fstP_all
  · rw [fstP_one, ← fstP_all, h]; rfl
set_option maxRecDepth 100000 in
theorem first_ct {w : World} {A_s : Option Addr} {n_s c_s : Nat} {s : List Int} (h_s : Rd w A_s n_s c_s 1 (ints .i64 s)) (hN : s.length ≤ 1000000) :
    Ct Tryz.prog 313 #[.slice A_s n_s c_s] w.heap.size w [] (fun v R' => ∃ A c, v = .slice A (fstL s).length c ∧ R' = [⟨3, 1, A, (fstL s).length, c, ints .i64 (fstL s), false⟩]) := by
  obtain rfl := h_s.lenI
  refine fn1 Tryz.func313 rfl rfl rfl ?_
  have m_s := h_s.max
  refine w_seq ?_
  refine w_reg ?_
  refine wr_y rfl (y_assign rfl) ?_
  refine wr_nil ?_
  refine w_seq ?_
  refine w_reg ?_
  refine wr_sub (R1 := [⟨3, 1, none, 0, 0, ints .i64 ([]), false⟩]) (Sub.refl _) (fun _ h => h.nil 3 1) ?_
  refine wr_y rfl (y_assign rfl) ?_
  refine wr_nil ?_
  refine w_seq ?_
  refine w_reg ?_
  refine wr_y rfl (y_move rfl) ?_
  refine wr_a rfl (a_callF en337 rfl (Ct.fresh (fun w hw => small_ct ((h_s.c _) w hw) (by first | assumption | omega | decide)))) ?_
  rintro _ _ ⟨_, rfl, A_1, c_2, rfl, rfl⟩
  refine wr_y rfl (y_assign rfl) ?_
  refine wr_nil ?_
  refine w_seq ?_
  refine w_seq ?_
  refine w_reg ?_
  refine wr_y rfl (y_move rfl) ?_
  refine wr_y rfl (y_len Tryz.underlying24 rfl) ?_
  refine wr_y rfl (y_move rfl) ?_
  refine wr_nil ?_
  refine w_block ?_
  refine w_loop5 (fun (A1 : Option Addr) (n1 : Nat) (c1 : Nat) (acc : List Int) (i : Int) => [(3, .slice A1 n1 c1), (4, .slice A_1 s.length c_2), (9, .int .i64 ((s.length : Nat) : Int)), (10, .int .i64 i)]) (fun (A1 : Option Addr) (n1 : Nat) (c1 : Nat) (acc : List Int) (i : Int) => [⟨4, 1, A_1, s.length, c_2, bools (smL s), false⟩, ⟨3, 1, A1, n1, c1, ints .i64 acc, false⟩]) (fun (A1 : Option Addr) (n1 : Nat) (c1 : Nat) (acc : List Int) (i : Int) => (n1 = acc.length) ∧ (0 ≤ i) ∧ (i ≤ s.length) ∧ (acc = fstP s i)) (fun (A1 : Option Addr) (n1 : Nat) (c1 : Nat) (acc : List Int) (i : Int) => (s.length - i).toNat) ?_ ?_
  ·
    exact ⟨none, 0, 0, [], 0, ⟨(rfl), (by omega), (by omega), (rfl)⟩, (Sub.cons rfl (Sub.cons rfl (Sub.cons rfl (Sub.cons rfl Sub.nil)))), fun _ h => h⟩
  intro A1 n1 c1 acc i ⟨hn1, hi0, hi1, hacc⟩
  refine w_seq ?_
  refine w_reg ?_
  refine wr_y rfl (y_lt rfl rfl) ?_
  refine wr_nil ?_
  refine w_seq ?_
  refine w_if rfl (fun hc1 => ?_) (fun hc1 => ?_)
  ·
    refine w_skip ?_
    refine w_seq ?_
    refine w_block ?_
    refine w_seq ?_
    refine w_reg ?_
    refine wr_y rfl (y_move rfl) ?_
    refine wr_y rfl (y_assign rfl) ?_
    refine wr_nil ?_
    refine w_seq ?_
    refine w_reg ?_
    refine wr_y rfl (y_move rfl) ?_
    refine wr_y rfl (y_gt rfl rfl) ?_
    refine wr_y rfl (y_move rfl) ?_
    refine wr_mid 5 [(3, .slice A1 n1 c1), (4, .slice A_1 s.length c_2), (5, .int .i64 i), (9, .int .i64 ((s.length : Nat) : Int)), (10, .int .i64 i), (20, .bool (decide ((0 < i) ∧ (rdb (smL s) i = true))))] [⟨4, 1, A_1, s.length, c_2, bools (smL s), false⟩, ⟨3, 1, A1, n1, c1, ints .i64 acc, false⟩] ?_ ?_
    ·
      refine wr_case 15 rfl (fun hc2 => ?_) (fun hc2 => ?_)
      ·
        refine wr_yes rfl rfl ?_
        refine wr_y rfl (y_move rfl) ?_
        refine wr_yes rfl rfl ?_
        refine wr_y rfl (y_move rfl) ?_
        refine wr_yes rfl rfl ?_
        refine wr_y rfl (y_index1 Tryz.underlying215 sz4 rfl rfl (rdr 0 rfl) (by omega) (by omega)) ?_
        refine wr_yes rfl rfl ?_
        refine wr_y rfl (y_ldB Tryz.underlying4 rfl rfl (rdr 0 rfl) (by omega) (by omega)) ?_
        refine wr_y rfl (y_pickT rfl rfl) ?_
        refine wr_nil ?_
        exact ⟨(Sub.cons rfl (Sub.cons rfl (Sub.cons rfl (Sub.cons rfl (Sub.cons rfl (Sub.to rfl (mb (by first | omega | exact ⟨fun h => ⟨(by assumption), h⟩, fun h => h.2⟩ | exact .inl (by assumption) | exact ⟨.inr, fun h => h.resolve_left (by assumption)⟩ | exact ⟨fun h => h.resolve_left (by assumption), .inr⟩ | simp [*])) Sub.nil)))))), fun _ h => h⟩
      ·
        refine wr_no rfl rfl rfl rfl ?_
        refine wr_no rfl rfl rfl rfl ?_
        refine wr_no rfl rfl rfl rfl ?_
        refine wr_no rfl rfl rfl rfl ?_
        refine wr_y rfl (y_pickF rfl rfl) ?_
        refine wr_nil ?_
        exact ⟨(Sub.cons rfl (Sub.cons rfl (Sub.cons rfl (Sub.cons rfl (Sub.cons rfl (Sub.to rfl (mb_f (by first | omega | exact ⟨fun h => ⟨(by assumption), h⟩, fun h => h.2⟩ | exact .inl (by assumption) | exact ⟨.inr, fun h => h.resolve_left (by assumption)⟩ | exact ⟨fun h => h.resolve_left (by assumption), .inr⟩ | simp [*])) Sub.nil)))))), fun _ h => h⟩
    refine wr_y rfl (y_move rfl) ?_
    refine wr_mid 7 [(3, .slice A1 n1 c1), (4, .slice A_1 s.length c_2), (5, .int .i64 i), (9, .int .i64 ((s.length : Nat) : Int)), (10, .int .i64 i), (28, .bool (decide (((0 < i) ∧ (rdb (smL s) i = true)) ∧ (¬ (rdb (smL s) (i - 1) = true)))))] [⟨4, 1, A_1, s.length, c_2, bools (smL s), false⟩, ⟨3, 1, A1, n1, c1, ints .i64 acc, false⟩] ?_ ?_
    ·
      refine wr_case 21 rfl (fun hc3 => ?_) (fun hc3 => ?_)
      ·
        refine wr_yes rfl rfl ?_
        refine wr_y rfl (y_move rfl) ?_
        refine wr_yes rfl rfl ?_
        refine wr_y rfl (y_move rfl) ?_
        refine wr_yes rfl rfl ?_
        refine wr_y rfl (y_subI rfl rfl (by omega)) ?_
        refine wr_yes rfl rfl ?_
        refine wr_y rfl (y_index1 Tryz.underlying215 sz4 rfl rfl (rdr 0 rfl) (by omega) (by omega)) ?_
        refine wr_yes rfl rfl ?_
        refine wr_y rfl (y_ldB Tryz.underlying4 rfl rfl (rdr 0 rfl) (by omega) (by omega)) ?_
        refine wr_yes rfl rfl ?_
        refine wr_y rfl (y_notD rfl) ?_
        refine wr_y rfl (y_pickT rfl rfl) ?_
        refine wr_nil ?_
        exact ⟨(Sub.cons rfl (Sub.cons rfl (Sub.cons rfl (Sub.cons rfl (Sub.cons rfl (Sub.to rfl (mb (by first | omega | exact ⟨fun h => ⟨(by assumption), h⟩, fun h => h.2⟩ | exact .inl (by assumption) | exact ⟨.inr, fun h => h.resolve_left (by assumption)⟩ | exact ⟨fun h => h.resolve_left (by assumption), .inr⟩ | simp [*])) Sub.nil)))))), fun _ h => h⟩
      ·
        refine wr_no rfl rfl rfl rfl ?_
        refine wr_no rfl rfl rfl rfl ?_
        refine wr_no rfl rfl rfl rfl ?_
        refine wr_no rfl rfl rfl rfl ?_
        refine wr_no rfl rfl rfl rfl ?_
        refine wr_no rfl rfl rfl rfl ?_
        refine wr_y rfl (y_pickF rfl rfl) ?_
        refine wr_nil ?_
        exact ⟨(Sub.cons rfl (Sub.cons rfl (Sub.cons rfl (Sub.cons rfl (Sub.cons rfl (Sub.to rfl (mb_f (by first | omega | exact ⟨fun h => ⟨(by assumption), h⟩, fun h => h.2⟩ | exact .inl (by assumption) | exact ⟨.inr, fun h => h.resolve_left (by assumption)⟩ | exact ⟨fun h => h.resolve_left (by assumption), .inr⟩ | simp [*])) Sub.nil)))))), fun _ h => h⟩
    refine wr_nil ?_
    refine w_if rfl (fun hc4 => ?_) (fun hc4 => ?_)
    ·
      refine w_reg ?_
      refine wr_y rfl (y_move rfl) ?_
      refine wr_y rfl (y_move rfl) ?_
      refine wr_a rfl (a_litI .i64 [i] Tryz.underlying24 zs3 rfl rfl rfl) ?_
      rintro _ _ ⟨g_5, rfl, rfl⟩
      refine wr_a rfl (a_appendI 2 rfl Tryz.underlying24 zb3 rfl rfl rfl (rdr 0 rfl) (by have := congrArg List.length hacc; have := fstP_len (s := s) i; omega)) ?_
      rintro _ _ ⟨A_6, c_7, rfl, rfl⟩
      refine wr_rows (R1 := [⟨3, 1, (some ⟨g_5, 0, none⟩), 1, 1, ints .i64 ([i]), false⟩, ⟨4, 1, A_1, s.length, c_2, bools (smL s), false⟩, ⟨3, 1, A_6, (n1 + 1), c_7, ints .i64 (acc ++ ([i])), false⟩]) rfl ?_
      refine wr_as (v := .slice A_6 (n1 + 1) c_7) rfl ?_
      refine wr_y rfl (y_assign rfl) ?_
      refine wr_nil ?_
      refine w_reg ?_
      refine wr_y rfl (y_addI rfl rfl (by omega)) ?_
      refine wr_y rfl (y_move rfl) ?_
      refine wr_nil ?_
      exact ⟨A_6, n1 + 1, c_7, acc ++ ([i]), i + 1, ⟨(by rw [List.length_append, hn1]; try rfl), (by omega), (by omega), (by rw [fstP_step (by omega), if_pos (fst_yes (by omega) (by omega) hc4.1.1 hc4.1.2 hc4.2), hacc])⟩, (by omega), (Sub.cons rfl (Sub.cons rfl (Sub.cons rfl (Sub.cons rfl Sub.nil)))), fun _ h => h.sel [1, 2] (by decide) rfl⟩
    ·
      refine w_skip ?_
      refine w_reg ?_
      refine wr_y rfl (y_addI rfl rfl (by omega)) ?_
      refine wr_y rfl (y_move rfl) ?_
      refine wr_nil ?_
      exact ⟨A1, n1, c1, acc, i + 1, ⟨(hn1), (by omega), (by omega), (by rw [fstP_step (by omega), if_neg (fst_no (by omega) (by omega) (fun h => hc4 ⟨⟨h.1, h.2.1⟩, h.2.2⟩)), List.append_nil, hacc])⟩, (by omega), (Sub.cons rfl (Sub.cons rfl (Sub.cons rfl (Sub.cons rfl Sub.nil)))), fun _ h => h⟩
  ·
    refine w_exit ?_
    refine w_seq ?_
    refine w_reg ?_
    refine wr_y rfl (y_move rfl) ?_
    refine wr_y rfl (y_assign rfl) ?_
    refine wr_nil ?_
    refine w_retR (R1 := [⟨3, 1, A1, n1, c1, ints .i64 acc, false⟩]) (fun _ h => h.sel [1] (by decide) rfl) ?_
    refine ⟨_, rfl, ?_⟩
    rw [fstP_end (by omega)] at hacc
    subst hacc
    obtain rfl := hn1
    exact ⟨_, _, rfl, rfl⟩

end Go.Proofs.YtipnciohgbjjhaaGreat

