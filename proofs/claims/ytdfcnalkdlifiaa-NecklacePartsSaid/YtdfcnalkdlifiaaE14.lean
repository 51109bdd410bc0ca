/-
  Engine: pairs compared. Own work.
-/
import Derived.Test.YtdfcnalkdlifiaaE13
import Derived.Stop.BytesEq
namespace Go.Eng
open Go Go.RowKit
section
variable {P : Program} {n : Nd} {B : Nat} {w0 : World} {L : Env} {R : List Row} {ty : TypeId}
theorem run_eqPair (k : Nat) (t e : TypeId) (ht : P.underlying t = some (.array 2 e)) (he : P.underlying e = some (.int .i64)) (hsz : ∀ w, (sizeOf e).run P w = .ok 1 w) (a b c d : Int) (w : World) :
    (Op.equalIn (k + 2) t (.agg #[.int .i64 a, .int .i64 b]) (.agg #[.int .i64 c, .int .i64 d])).run P w = .ok (decide ((a, b) = (c, d))) w := by
  rw [Op.equalIn]
  simp only [Sem.run_bind, run_underlying ht, Result.andThen_ok, hsz, Std.Legacy.Range.forIn_eq_forIn_range', Std.Legacy.Range.size, Nat.sub_zero, Nat.add_sub_cancel, Nat.div_one]
  have hr : List.range' 0 2 1 = [0, 1] := rfl
  have p0 : ∀ (x y : Int), (part e #[Value.int .i64 x, .int .i64 y] 0).run P w = .ok (.int .i64 x) w := by
    intro x y
    simp [part, isAgg, run_underlying he]
  have p1 : ∀ (x y : Int), (part e #[Value.int .i64 x, .int .i64 y] 1).run P w = .ok (.int .i64 y) w := by
    intro x y
    simp [part, isAgg, run_underlying he]
  have q1 : ∀ (x y : Int), (Op.equalIn (k + 1) e (.int .i64 x) (.int .i64 y)).run P w = .ok (x == y) w := fun x y => run_equalIn_int w k e .i64 .i64 x y he
  rw [hr]
  by_cases h1 : a = c
  · subst h1
    by_cases h2 : b = d
    · subst h2
      simp [p0, p1, q1]
    · simp [p0, p1, q1, h2]
  · simp [p0, q1, h1]
theorem y_nePair {x y : Operand} {t u e : TypeId} {a b c d : Int} (ht : P.underlying t = some (.array 2 e)) (he : P.underlying e = some (.int .i64)) (hsz : ∀ w, (sizeOf e).run P w = .ok 1 w) (hg : P.eqGuardType P.depth t = false)
    (hx : ev L x = some (.agg #[.int .i64 a, .int .i64 b])) (hy : ev L y = some (.agg #[.int .i64 c, .int .i64 d])) : Yl P n B w0 (.binOp .neq t x y u) ty L R (.bool (decide ((a, b) ≠ (c, d)))) := by
  intro a' w o ho _ hs _
  have h := run_eqPair 9998 t e ht he hsz a b c d w
  have h' : (Op.equal t (.agg #[.int .i64 a, .int .i64 b]) (.agg #[.int .i64 c, .int .i64 d])).run P w = .ok (decide ((a, b) = (c, d))) w := h
  simp only [execOp, ho, hs.ev hx, hs.ev hy, Sem.run_bind]
  simp [eqGuard, hg, binOp, h', program, Sem.run]
end
end Go.Eng
