/-
  What a row's arguments give the engine. Own work.
-/
import Derived.Test.YtdfcnalkdlifiaaE7
import Derived.ProofKit
import Derived.OpenShut
namespace Go.Eng
open Go Go.RowKit
theorem rd_none {w : World} (k : IntKind) : Rd w none ([] : List Int).length 0 1 (ints k []) := ⟨rfl, by simp, by simp, fun j v hv => by simp [ints] at hv⟩
theorem rd_open {w : World} {k : IntKind} {x : Addr} {len cap : Nat} {zs : List Int} (hl : len ≤ cap) (hm : cap ≤ maxLen) (hz : zs.length = cap) (hcell : ∀ i, i < zs.length → w.cell? (x.add i) = some (.int k (zs.getD i 0))) (hwz : ∀ n ∈ zs, (Lit.int k n).wf = true) :
    ∃ l : List Int, len = l.length ∧ Rd w (some x) l.length cap 1 (ints k l) ∧ ∀ n ∈ l, (Lit.int k n).wf = true := by
  unfold maxLen at hm
  have hlen : (zs.take len).length = len := by rw [List.length_take]; omega
  refine ⟨zs.take len, hlen.symm, ⟨by rw [ints_length]; omega, by omega, by omega, fun j v hv => ⟨x, rfl, ?_⟩⟩, fun n hn => hwz n (List.mem_of_mem_take hn)⟩
  have hj : j < len := by
    rcases Nat.lt_or_ge j len with h | h
    · exact h
    · rw [List.getElem?_eq_none (by rw [ints_length]; omega)] at hv; cases hv
  rw [hcell j (by omega)]
  have hjz : j < zs.length := by omega
  simp [ints, hj, List.getElem?_eq_getElem hjz] at hv
  subst hv
  simp [List.getD_eq_getElem?_getD, List.getElem?_eq_getElem hjz]
theorem byteL_wf {l : List Int} (h : ∀ x ∈ l, (Lit.int .u8 x).wf = true) : ByteL l := fun x hx => by
  have := h x hx
  have := bounds_u8 this
  omega
theorem wf_i64 {x : Int} (h : (Lit.int .i64 x).wf = true) : -9223372036854775808 ≤ x ∧ x ≤ 9223372036854775807 := bounds_i64 h
theorem wf_u8 {x : Int} (h : (Lit.int .u8 x).wf = true) : 0 ≤ x ∧ x < 256 := by have := bounds_u8 h; omega
end Go.Eng
