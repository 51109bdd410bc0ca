/-
  Engine: arrays of numbers of a function's own. Own work.
-/
import Derived.Test.YtdfcnalkdlifiaaE16
namespace Go.Eng
open Go Go.RowKit
section
variable {P : Program} {n : Nd} {B : Nat} {w0 : World} {L : Env} {R : List Row} {ty : TypeId}
theorem y_indexL {x ix : Operand} {t e : TypeId} {k k' : IntKind} {g N m c sz : Nat} {i : Int} {l : List Int} (ht : P.underlying t = some (.array N e)) (hi : (P.info? e).map (·.size) = some 1) (hx : ev L x = some (.pointer (some ⟨g, 0, none⟩))) (hix : ev L ix = some (.int k i))
    (hr : RdC B w0 R (some ⟨g, 0, none⟩) m c sz (ints k' l)) (h0 : 0 ≤ i) (h1 : i < N) (hl : 0 < l.length) : Yl P n B w0 (.indexAddr t x ix) ty L R (.pointer (pat (some ⟨g, 0, none⟩) i.toNat)) := by
  have hpp : (some ⟨g, 0, none⟩ : Option Addr) = pat (some ⟨g, 0, none⟩) 0 := by simp only [pat, Option.map_some, addr0]
  have := y_indexArr (P := P) (n := n) (B := B) (w0 := w0) (ty := ty) ht hi hx hpp hix hr (by rw [ints_length]; exact hl) h0 h1
  rwa [Nat.mul_one, Nat.zero_add] at this
theorem y_ldL {x : Operand} {t : TypeId} {d : TypeDesc} {A : Option Addr} {m c sz : Nat} {k : IntKind} {l : List Int} {i : Int} (hu : P.underlying t = some d) (hd : aggB d = false) (hx : ev L x = some (.pointer (pat A i.toNat))) (hr : RdC B w0 R A m c sz (ints k l)) (h0 : 0 ≤ i) (h1 : i < l.length) :
    Yl P n B w0 (.load t x) ty L R (.int k (rd l i)) := y_ld hu hd hx rfl hr (ints_at h0 h1)
theorem a_storeL {x y : Operand} {t e : TypeId} {j v : Int} {g m c sz : Nat} {k : IntKind} {l : List Int} (i : Nat) (hi : R[i]? = some ⟨e, sz, some ⟨g, 0, none⟩, m, c, ints k l, false⟩) (hst : (P.info? t).map (·.size) = some 1) (hx : ev L x = some (.pointer (pat (some ⟨g, 0, none⟩) j.toNat))) (hy : ev L y = some (.int k v)) (h0 : 0 ≤ j) (h1 : j < l.length) :
    Ac P n B w0 (.store t x y) ty L R (fun _ R' => R' = R.set i ⟨e, sz, some ⟨g, 0, none⟩, m, c, ints k (upd l j v), false⟩) := by
  have := a_store (P := P) (n := n) (B := B) (w0 := w0) (ty := ty) i hi rfl rfl hst hx rfl hy rfl rfl (by simp only; rw [ints_length]; omega)
  simpa only [ints_upd] using this
end
end Go.Eng
