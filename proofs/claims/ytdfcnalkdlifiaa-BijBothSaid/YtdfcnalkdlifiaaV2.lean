/-
  slices.Backward over slices: printed by a program of our own (gen_back.py).
-/
import Derived.Shelf.Abstract
import Derived.WalkKit
import Derived.OwnWalkIn
import Derived.TacticsInMore
import Derived.LoopNIn
import Derived.LoopIn
import Derived.Test.YtdfcnalkdlifiaaProg
import Derived.Test.YtdfcnalkdlifiaaT
import Derived.Test.YtdfcnalkdlifiaaE21
namespace Go.Proofs.Ytdfcnalkdlifiaa
open Go Go.Eng Go.RowKit Go.Shelf Go.Proofs
attribute [local go_sem] Oper.semAt_some
theorem back_cell {W : World} {a : Addr} {n c : Nat} {xs : List Value} (h : Rd W (some a) n c 1 xs) {j : Nat} (hj : j < xs.length) : W.cell? (a.add j) = some (xs[j]'hj) := by
  obtain ⟨b, h1, h2⟩ := h.at_ j _ (List.getElem?_eq_getElem hj)
  obtain rfl := Option.some.inj h1
  exact h2
theorem _root_.Go.Eng.Iter.congr {P : Program} {gf : Nat} {lb : Array Value} {Rdy : World → Prop} {N : Nat} {f f' : Nat → List Value} (it : Iter P gf lb Rdy N f) (h : ∀ k, k < N → f k = f' k) : Iter P gf lb Rdy N f' :=
  fun l J W hR hY h0 => it l J W hR (fun k W hk hJ => by rw [h k hk]; exact hY k W hk hJ) h0
theorem ints_getD {k : IntKind} {zs : List Int} {j : Nat} (h : j < zs.length) : (ints k zs)[j]?.getD undef = .int k (rd zs (j : Int)) := by
  have := Go.Eng.ints_at (k := k) (l := zs) (i := (j : Int)) (by omega) (by omega)
  rw [Int.toNat_natCast] at this
  rw [this, Option.getD_some]

set_option maxRecDepth 100000 in
set_option maxHeartbeats 2000000 in
theorem back0_it {g : Nat} {A : Option Addr} {c : Nat} {xs : List Value} (hmax : xs.length ≤ 1000000) : Iter Try.prog 76 #[.pointer (some ⟨g, 0, none⟩)] (fun w => Rd w (some ⟨g, 0, none⟩) 1 1 1 [.slice A xs.length c] ∧ Rd w A xs.length c 1 xs) xs.length
    (fun k => [.int .i64 (((xs.length - 1 - k : Nat) : Int)), xs[xs.length - 1 - k]?.getD undef]) := by
  intro l J W hR hY h0
  rcases Nat.eq_zero_or_pos xs.length with hz | hpos
  · have hc : W.cell? ⟨g, 0, none⟩ = some (.slice A xs.length c) := back_cell (hR _ _ h0).1 (j := 0) (by simp)
    rw [hz] at hc
    refine callsIn_of_wp Try.func76 rfl trivial ?_ rfl
    simp only [Try.ntmps76, List.size_toArray, List.length_cons, List.length_nil, Nat.reduceAdd, Nat.reduceSub, Array.replicate_succ, Array.replicate_zero, List.push_toArray, List.append_toArray, List.nil_append, List.cons_append]
    gi_wp2
    gi_loopw [3] (fun i wr => i = .int .i64 (-1) ∧ J 0 wr) (fun _ _ => 0)
    case atStart => exact ⟨rfl, h0⟩
    case round =>
      obtain ⟨rfl, hJs⟩ := hrel
      gi_wp2
      go_end0
      exact ⟨⟨_, rfl⟩, by rw [hz]; exact hJs⟩
  · obtain ⟨a, rfl⟩ : ∃ a, A = some a := by
      obtain ⟨a, h1, _⟩ := (hR _ _ h0).2.at_ 0 _ (List.getElem?_eq_getElem hpos)
      exact ⟨a, h1⟩
    have hc : W.cell? ⟨g, 0, none⟩ = some (.slice (some a) xs.length c) := back_cell (hR _ _ h0).1 (j := 0) (by simp)
    refine callsIn_of_wp Try.func76 rfl trivial ?_ rfl
    simp only [Try.ntmps76, List.size_toArray, List.length_cons, List.length_nil, Nat.reduceAdd, Nat.reduceSub, Array.replicate_succ, Array.replicate_zero, List.push_toArray, List.append_toArray, List.nil_append, List.cons_append]
    gi_wp2
    gi_loopw [3] (fun i wr => (∃ k j : Nat, k + j + 1 = xs.length ∧ i = .int .i64 (j : Int) ∧ J k wr) ∨ (i = .int .i64 (-1) ∧ J xs.length wr)) (fun i _ => (intOf i + 1).toNat)
    case atStart => exact .inl ⟨0, xs.length - 1, by omega, by rw [show ((xs.length : Int) - 1) = ((xs.length - 1 : Nat) : Int) by omega], h0⟩
    case round =>
      rcases hrel with ⟨k, j, hkj, rfl, hJs⟩ | ⟨rfl, hJs⟩
      · obtain ⟨fn, tmps, assign, body, hy, hRd⟩ := hY k wr (by omega) hJs
        rw [show xs.length - 1 - k = j by omega] at hy
        have hjl : j < xs.length := by omega
        rw [List.getElem?_eq_getElem hjl] at hy
        simp only [Option.getD_some] at hy
        have hc1 : wr.cell? ⟨g, 0, none⟩ = some (.slice (some a) xs.length c) := back_cell (hR _ _ hJs).1 (j := 0) (by simp)
        have hc2 := back_cell (hR _ _ hJs).2 hjl
        gi_wp2
        refine ⟨rfl, hRd.mono ?_⟩
        rintro e W3 ⟨rfl, hJ3⟩
        gi_wp2
        go_roundw
        case rel =>
          rcases Nat.eq_zero_or_pos j with rfl | hj
          · exact .inr ⟨by simp, by rw [← hkj]; exact hJ3⟩
          · exact .inl ⟨k + 1, j - 1, by omega, by rw [show ((j : Int) - 1) = ((j - 1 : Nat) : Int) by omega], hJ3⟩
        case measure => simp [intOf]
      · gi_wp2
        go_end0
        exact ⟨⟨_, rfl⟩, hJs⟩

set_option maxRecDepth 100000 in
set_option maxHeartbeats 2000000 in
theorem back1_it {g : Nat} {A : Option Addr} {c : Nat} {xs : List Value} (hmax : xs.length ≤ 1000000) : Iter Try.prog 77 #[.pointer (some ⟨g, 0, none⟩)] (fun w => Rd w (some ⟨g, 0, none⟩) 1 1 1 [.slice A xs.length c] ∧ Rd w A xs.length c 1 xs) xs.length
    (fun k => [.int .i64 (((xs.length - 1 - k : Nat) : Int)), xs[xs.length - 1 - k]?.getD undef]) := by
  intro l J W hR hY h0
  rcases Nat.eq_zero_or_pos xs.length with hz | hpos
  · have hc : W.cell? ⟨g, 0, none⟩ = some (.slice A xs.length c) := back_cell (hR _ _ h0).1 (j := 0) (by simp)
    rw [hz] at hc
    refine callsIn_of_wp Try.func77 rfl trivial ?_ rfl
    simp only [Try.ntmps77, List.size_toArray, List.length_cons, List.length_nil, Nat.reduceAdd, Nat.reduceSub, Array.replicate_succ, Array.replicate_zero, List.push_toArray, List.append_toArray, List.nil_append, List.cons_append]
    gi_wp2
    gi_loopw [3] (fun i wr => i = .int .i64 (-1) ∧ J 0 wr) (fun _ _ => 0)
    case atStart => exact ⟨rfl, h0⟩
    case round =>
      obtain ⟨rfl, hJs⟩ := hrel
      gi_wp2
      go_end0
      exact ⟨⟨_, rfl⟩, by rw [hz]; exact hJs⟩
  · obtain ⟨a, rfl⟩ : ∃ a, A = some a := by
      obtain ⟨a, h1, _⟩ := (hR _ _ h0).2.at_ 0 _ (List.getElem?_eq_getElem hpos)
      exact ⟨a, h1⟩
    have hc : W.cell? ⟨g, 0, none⟩ = some (.slice (some a) xs.length c) := back_cell (hR _ _ h0).1 (j := 0) (by simp)
    refine callsIn_of_wp Try.func77 rfl trivial ?_ rfl
    simp only [Try.ntmps77, List.size_toArray, List.length_cons, List.length_nil, Nat.reduceAdd, Nat.reduceSub, Array.replicate_succ, Array.replicate_zero, List.push_toArray, List.append_toArray, List.nil_append, List.cons_append]
    gi_wp2
    gi_loopw [3] (fun i wr => (∃ k j : Nat, k + j + 1 = xs.length ∧ i = .int .i64 (j : Int) ∧ J k wr) ∨ (i = .int .i64 (-1) ∧ J xs.length wr)) (fun i _ => (intOf i + 1).toNat)
    case atStart => exact .inl ⟨0, xs.length - 1, by omega, by rw [show ((xs.length : Int) - 1) = ((xs.length - 1 : Nat) : Int) by omega], h0⟩
    case round =>
      rcases hrel with ⟨k, j, hkj, rfl, hJs⟩ | ⟨rfl, hJs⟩
      · obtain ⟨fn, tmps, assign, body, hy, hRd⟩ := hY k wr (by omega) hJs
        rw [show xs.length - 1 - k = j by omega] at hy
        have hjl : j < xs.length := by omega
        rw [List.getElem?_eq_getElem hjl] at hy
        simp only [Option.getD_some] at hy
        have hc1 : wr.cell? ⟨g, 0, none⟩ = some (.slice (some a) xs.length c) := back_cell (hR _ _ hJs).1 (j := 0) (by simp)
        have hc2 := back_cell (hR _ _ hJs).2 hjl
        gi_wp2
        refine ⟨rfl, hRd.mono ?_⟩
        rintro e W3 ⟨rfl, hJ3⟩
        gi_wp2
        go_roundw
        case rel =>
          rcases Nat.eq_zero_or_pos j with rfl | hj
          · exact .inr ⟨by simp, by rw [← hkj]; exact hJ3⟩
          · exact .inl ⟨k + 1, j - 1, by omega, by rw [show ((j : Int) - 1) = ((j - 1 : Nat) : Int) by omega], hJ3⟩
        case measure => simp [intOf]
      · gi_wp2
        go_end0
        exact ⟨⟨_, rfl⟩, hJs⟩

theorem back1_ints {g : Nat} {A : Option Addr} {c : Nat} {zs : List Int} (hmax : zs.length ≤ 1000000) : Iter Try.prog 77 #[.pointer (some ⟨g, 0, none⟩)] (fun w => Rd w (some ⟨g, 0, none⟩) 1 1 1 [.slice A zs.length c] ∧ Rd w A zs.length c 1 (ints .i64 zs)) zs.length
    (fun k => [.int .i64 (((zs.length - 1 - k : Nat) : Int)), .int .i64 (rd zs ((zs.length - 1 - k : Nat) : Int))]) := by
  have h := back1_it (g := g) (A := A) (c := c) (xs := ints .i64 zs) (by rw [ints_length]; exact hmax)
  rw [ints_length] at h
  exact h.congr fun k hk => by rw [ints_getD (by omega)]
end Go.Proofs.Ytdfcnalkdlifiaa
