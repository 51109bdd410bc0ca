/-
  The engine's operations: what each one computes, reads or turns. Own work.
-/
import Derived.Test.YtlagmdccneompaaE1
import Derived.Laws.BytesArg
import Derived.Lib.ConvBytes
namespace Go.Eng
open Go Go.RowKit
section
variable {P : Program} {n B : Nat} {w0 : World} {L : Env} {R : List Row} {ty : TypeId}

theorem y_move {x : Operand} {v : Value} (h : ev L x = some v) : Yl P n B w0 (.move x) ty L R v := by
  intro a w o ho _ hs _
  simp [execOp, ho, hs.ev h]
theorem y_assign {x : Operand} {v : Value} (h : ev L x = some v) : Yl P n B w0 (.assign x) ty L R v := by
  intro a w o ho _ hs _
  simp [execOp, ho, hs.ev h]
theorem y_pick {c x y : Operand} {b : Bool} {v u : Value} (hc : ev L c = some (.bool b)) (hx : b = true → ev L x = some v) (hy : b = false → ev L y = some u) : Yl P n B w0 (.pick c x y) ty L R (bif b then v else u) := by
  intro a w o ho _ hs _
  cases b with
  | true => simp [execOp, ho, hs.ev hc, hs.ev (hx rfl), asBool]
  | false => simp [execOp, ho, hs.ev hc, hs.ev (hy rfl), asBool]
theorem y_pickT {c x y : Operand} {v : Value} (hc : ev L c = some (.bool true)) (hx : ev L x = some v) : Yl P n B w0 (.pick c x y) ty L R v :=
  y_pick (b := true) (u := undef) hc (fun _ => hx) (fun h => by cases h)
theorem y_pickF {c x y : Operand} {v : Value} (hc : ev L c = some (.bool false)) (hy : ev L y = some v) : Yl P n B w0 (.pick c x y) ty L R v :=
  y_pick (b := false) (v := undef) hc (fun h => by cases h) (fun _ => hy)
theorem y_len {x : Operand} {t e : TypeId} {A : Option Addr} {m c : Nat} (ht : P.underlying t = some (.slice e)) (hx : ev L x = some (.slice A m c)) : Yl P n B w0 (.call { callee := .builtin .len, args := #[x], argTypes := #[t] }) ty L R (.int .i64 (m : Int)) := by
  intro a w o ho _ hs _
  simp [execOp, ho, resolve, invoke, builtin, Builtin.len_, run_underlying ht, hs.ev hx, goInt]
theorem y_lenS {x : Operand} {t : TypeId} {s : ByteArray} (ht : P.underlying t = some .string) (hx : ev L x = some (.string s)) : Yl P n B w0 (.call { callee := .builtin .len, args := #[x], argTypes := #[t] }) ty L R (.int .i64 (s.size : Int)) := by
  intro a w o ho _ hs _
  simp [execOp, ho, resolve, invoke, builtin, Builtin.len_, run_underlying ht, hs.ev hx, goInt]
theorem y_min {x y : Operand} {ts : Array TypeId} {k : IntKind} {p q : Int} (hx : ev L x = some (.int k p)) (hy : ev L y = some (.int k q)) : Yl P n B w0 (.call { callee := .builtin .min, args := #[x, y], argTypes := ts }) ty L R (.int k (min p q)) := by
  intro a w o ho _ hs _
  have : (if q < p then q else p) = min p q := by omega
  simp [execOp, ho, resolve, invoke, builtin, Builtin.min_, Builtin.min2, hs.ev hx, hs.ev hy, this]
theorem y_max {x y : Operand} {ts : Array TypeId} {k : IntKind} {p q : Int} (hx : ev L x = some (.int k p)) (hy : ev L y = some (.int k q)) : Yl P n B w0 (.call { callee := .builtin .max, args := #[x, y], argTypes := ts }) ty L R (.int k (max p q)) := by
  intro a w o ho _ hs _
  have : (if p < q then q else p) = max p q := by omega
  simp [execOp, ho, resolve, invoke, builtin, Builtin.max_, Builtin.max2, hs.ev hx, hs.ev hy, this]
/-! comparisons of numbers -/
theorem y_eq {x y : Operand} {t u : TypeId} {k : IntKind} {p q : Int} (hx : ev L x = some (.int k p)) (hy : ev L y = some (.int k q)) : Yl P n B w0 (.binOp .eql t x y u) ty L R (.bool (decide (p = q))) := by
  intro a w o ho _ hs _
  have : (p == q) = decide (p = q) := by by_cases h : p = q <;> simp [h]
  simp [execOp, ho, binOp, eqGuard, hs.ev hx, hs.ev hy, Op.intCmp, this]
theorem y_ne {x y : Operand} {t u : TypeId} {k : IntKind} {p q : Int} (hx : ev L x = some (.int k p)) (hy : ev L y = some (.int k q)) : Yl P n B w0 (.binOp .neq t x y u) ty L R (.bool (decide (p ≠ q))) := by
  intro a w o ho _ hs _
  have : (p != q) = decide (p ≠ q) := by by_cases h : p = q <;> simp [h]
  simp [execOp, ho, binOp, eqGuard, hs.ev hx, hs.ev hy, Op.intCmp, this]
theorem y_lt {x y : Operand} {t u : TypeId} {k : IntKind} {p q : Int} (hx : ev L x = some (.int k p)) (hy : ev L y = some (.int k q)) : Yl P n B w0 (.binOp .lss t x y u) ty L R (.bool (decide (p < q))) := by
  intro a w o ho _ hs _
  simp [execOp, ho, binOp, eqGuard, hs.ev hx, hs.ev hy, Op.intCmp]
theorem y_le {x y : Operand} {t u : TypeId} {k : IntKind} {p q : Int} (hx : ev L x = some (.int k p)) (hy : ev L y = some (.int k q)) : Yl P n B w0 (.binOp .leq t x y u) ty L R (.bool (decide (p ≤ q))) := by
  intro a w o ho _ hs _
  simp [execOp, ho, binOp, eqGuard, hs.ev hx, hs.ev hy, Op.intCmp]
theorem y_gt {x y : Operand} {t u : TypeId} {k : IntKind} {p q : Int} (hx : ev L x = some (.int k p)) (hy : ev L y = some (.int k q)) : Yl P n B w0 (.binOp .gtr t x y u) ty L R (.bool (decide (q < p))) := by
  intro a w o ho _ hs _
  simp [execOp, ho, binOp, eqGuard, hs.ev hx, hs.ev hy, Op.intCmp]
theorem y_ge {x y : Operand} {t u : TypeId} {k : IntKind} {p q : Int} (hx : ev L x = some (.int k p)) (hy : ev L y = some (.int k q)) : Yl P n B w0 (.binOp .geq t x y u) ty L R (.bool (decide (q ≤ p))) := by
  intro a w o ho _ hs _
  simp [execOp, ho, binOp, eqGuard, hs.ev hx, hs.ev hy, Op.intCmp]
/-! arithmetic -/
theorem y_add {x y : Operand} {t u : TypeId} {k : IntKind} {p q : Int} (hx : ev L x = some (.int k p)) (hy : ev L y = some (.int k q)) : Yl P n B w0 (.binOp .add t x y u) ty L R (.int k (k.wrap (p + q))) := by
  intro a w o ho _ hs _
  simp [execOp, ho, binOp, eqGuard, hs.ev hx, hs.ev hy, Op.intArith]
theorem y_sub {x y : Operand} {t u : TypeId} {k : IntKind} {p q : Int} (hx : ev L x = some (.int k p)) (hy : ev L y = some (.int k q)) : Yl P n B w0 (.binOp .sub t x y u) ty L R (.int k (k.wrap (p - q))) := by
  intro a w o ho _ hs _
  simp [execOp, ho, binOp, eqGuard, hs.ev hx, hs.ev hy, Op.intArith]
theorem y_mul {x y : Operand} {t u : TypeId} {k : IntKind} {p q : Int} (hx : ev L x = some (.int k p)) (hy : ev L y = some (.int k q)) : Yl P n B w0 (.binOp .mul t x y u) ty L R (.int k (k.wrap (p * q))) := by
  intro a w o ho _ hs _
  simp [execOp, ho, binOp, eqGuard, hs.ev hx, hs.ev hy, Op.intArith]
theorem wrap_id {p : Int} (h : -9223372036854775808 ≤ p ∧ p ≤ 9223372036854775807) : IntKind.i64.wrap p = p := by rw [IntKind.wrap_i64]; omega
theorem y_addI {x y : Operand} {t u : TypeId} {p q : Int} (hx : ev L x = some (.int .i64 p)) (hy : ev L y = some (.int .i64 q)) (h : -9223372036854775808 ≤ p + q ∧ p + q ≤ 9223372036854775807) : Yl P n B w0 (.binOp .add t x y u) ty L R (.int .i64 (p + q)) := by
  have := y_add (P := P) (n := n) (B := B) (w0 := w0) (R := R) (ty := ty) (t := t) (u := u) hx hy
  rwa [wrap_id h] at this
theorem y_subI {x y : Operand} {t u : TypeId} {p q : Int} (hx : ev L x = some (.int .i64 p)) (hy : ev L y = some (.int .i64 q)) (h : -9223372036854775808 ≤ p - q ∧ p - q ≤ 9223372036854775807) : Yl P n B w0 (.binOp .sub t x y u) ty L R (.int .i64 (p - q)) := by
  have := y_sub (P := P) (n := n) (B := B) (w0 := w0) (R := R) (ty := ty) (t := t) (u := u) hx hy
  rwa [wrap_id h] at this
theorem y_mulI {x y : Operand} {t u : TypeId} {p q : Int} (hx : ev L x = some (.int .i64 p)) (hy : ev L y = some (.int .i64 q)) (h : -9223372036854775808 ≤ p * q ∧ p * q ≤ 9223372036854775807) : Yl P n B w0 (.binOp .mul t x y u) ty L R (.int .i64 (p * q)) := by
  have := y_mul (P := P) (n := n) (B := B) (w0 := w0) (R := R) (ty := ty) (t := t) (u := u) hx hy
  rwa [wrap_id h] at this
theorem y_rem {x y : Operand} {t u : TypeId} {k : IntKind} {p q : Int} (hx : ev L x = some (.int k p)) (hy : ev L y = some (.int k q)) (h0 : 0 ≤ p) (h : 0 < q) : Yl P n B w0 (.binOp .rem t x y u) ty L R (.int k (p % q)) := by
  intro a w o ho _ hs _
  have h1 : ¬ q = 0 := by omega
  simp [execOp, ho, binOp, eqGuard, hs.ev hx, hs.ev hy, Op.intDiv, h1, Int.tmod_eq_emod_of_nonneg h0]
theorem y_quo {x y : Operand} {t u : TypeId} {k : IntKind} {p q : Int} (hx : ev L x = some (.int k p)) (hy : ev L y = some (.int k q)) (h0 : 0 ≤ p) (h : 0 < q) : Yl P n B w0 (.binOp .quo t x y u) ty L R (.int k (k.wrap (p / q))) := by
  intro a w o ho _ hs _
  have h1 : ¬ q = 0 := by omega
  simp [execOp, ho, binOp, eqGuard, hs.ev hx, hs.ev hy, Op.intDiv, h1, Int.tdiv_eq_ediv_of_nonneg h0]
theorem y_quoI {x y : Operand} {t u : TypeId} {p q : Int} (hx : ev L x = some (.int .i64 p)) (hy : ev L y = some (.int .i64 q)) (h0 : 0 ≤ p) (h : 0 < q) (hm : p ≤ 9223372036854775807) : Yl P n B w0 (.binOp .quo t x y u) ty L R (.int .i64 (p / q)) := by
  have := y_quo (P := P) (n := n) (B := B) (w0 := w0) (R := R) (ty := ty) (t := t) (u := u) hx hy h0 h
  have h1 : p / q ≤ p := Int.ediv_le_self q h0
  have h2 : 0 ≤ p / q := Int.ediv_nonneg h0 (by omega)
  rwa [wrap_id (by omega)] at this
theorem y_not {x : Operand} {t : TypeId} {b : Bool} (hx : ev L x = some (.bool b)) : Yl P n B w0 (.unOp .not t x) ty L R (.bool !b) := by
  intro a w o ho _ hs _
  simp [execOp, ho, hs.ev hx, Op.unary]
theorem y_notD {x : Operand} {t : TypeId} {p : Prop} [Decidable p] (hx : ev L x = some (.bool (decide p))) : Yl P n B w0 (.unOp .not t x) ty L R (.bool (decide (¬ p))) := by
  have := y_not (P := P) (n := n) (B := B) (w0 := w0) (R := R) (ty := ty) (t := t) hx
  rwa [show (!decide p) = decide (¬ p) by simp] at this
theorem y_neg {x : Operand} {t : TypeId} {p : Int} (hx : ev L x = some (.int .i64 p)) (h : -9223372036854775808 < p ∧ p ≤ 9223372036854775807) : Yl P n B w0 (.unOp .neg t x) ty L R (.int .i64 (-p)) := by
  intro a w o ho _ hs _
  have : IntKind.i64.wrap (-p) = -p := wrap_id (by omega)
  simp [execOp, ho, hs.ev hx, Op.unary, Op.intArith, this]
/-! conversions -/
theorem y_conv {x : Operand} {s d : TypeId} {k j : IntKind} {p : Int} {td : TypeDesc} (hs' : P.underlying s = some td) (hd : P.underlying d = some (.int k)) (hx : ev L x = some (.int j p)) : Yl P n B w0 (.convert s d x) ty L R (.int k (k.wrap p)) := by
  intro a w o ho _ hs _
  simp [execOp, ho, convert, run_underlying hs', run_underlying hd, hs.ev hx, Conv.intToInt]
theorem y_convI {x : Operand} {s d : TypeId} {j : IntKind} {p : Int} {td : TypeDesc} (hs' : P.underlying s = some td) (hd : P.underlying d = some (.int .i64)) (hx : ev L x = some (.int j p)) (h : -9223372036854775808 ≤ p ∧ p ≤ 9223372036854775807) : Yl P n B w0 (.convert s d x) ty L R (.int .i64 p) := by
  have := y_conv (P := P) (n := n) (B := B) (w0 := w0) (R := R) (ty := ty) hs' hd hx
  rwa [wrap_id h] at this
end
end Go.Eng
