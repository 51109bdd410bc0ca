/-
  Engine: copy into a row of the call's own. Own work.
-/
import Derived.Laws.CopyRow
import Derived.Laws.IdiomCopy
import Derived.Test.YtdfcnalkdlifiaaE8
namespace Go.Eng
open Go Go.RowKit
section
variable {P : Program} {n : Nd} {B : Nat} {w0 : World} {L : Env} {R : List Row} {ty : TypeId}
theorem cut_addr {g lo c : Nat} (h : lo < c) : cutA (some ⟨g, 0, none⟩) lo c 1 = some ⟨g, lo, none⟩ := by
  unfold cutA
  rw [if_neg (by omega), Nat.mul_one, Option.map_some]
  unfold Addr.add
  split <;> simp_all
/-- copy(r[lo:], x): r a row of the call's own. -/
theorem a_copyI {x y : Operand} {t t2 e : TypeId} {p : Option Addr} {lo dl dc m c m2 c2 : Nat} {A A2 : Option Addr} {k : IntKind} {l src : List Int} (i : Nat) (hi : R[i]? = some ⟨e, 1, A, m, c, ints k l, false⟩) (ht : P.underlying t = some (.slice e)) (hst : (P.info? e).map (·.size) = some 1)
    (hx : ev L x = some (.slice p dl dc)) (hy : ev L y = some (.slice A2 m2 c2)) (hp : p = cutA A lo c 1) (hdl : dl = m - lo) (hlo : lo < m) (hrd : RdC B w0 R A2 m2 c2 1 (ints k src)) :
    Ac P n B w0 (.call { callee := .builtin .copy, args := #[x, y], argTypes := #[t, t2] }) ty L R (fun v R' => v = .int .i64 ((min m2 (m - lo) : Nat) : Int) ∧ R' = R.set i ⟨e, 1, A, m, c, ints k (l.take lo ++ src.take (min m2 (m - lo)) ++ l.drop (lo + min m2 (m - lo))), false⟩) := by
  intro a w o K Q ho hty hs hw hk
  have hown := Row.lies_w (hw.own _ (List.mem_of_getElem? hi)) rfl
  have hr2 := hrd w hw
  have hm2 : m2 = src.length := hr2.lenI
  have hl : m = l.length := by have := hown.1; rw [ints_length] at this; simp only at this; omega
  rcases hown.2 with ⟨_, hn⟩ | ⟨g, cap, cur, hv, hb, hg, hnc, hcm, hcs, htk⟩
  · simp only at hn; omega
  simp only [Value.slice.injEq, true_and] at hv
  obtain ⟨rfl, rfl⟩ := hv
  simp only at htk hcs hnc hg hb
  rw [Nat.mul_one] at htk hcs
  have hp' : p = some ⟨g, lo, none⟩ := by rw [hp]; exact cut_addr (by omega)
  subst hp'
  subst hdl
  obtain ⟨q, hq⟩ : ∃ q, min m2 (m - lo) = q := ⟨_, rfl⟩
  rw [hq] at hk
  have hq' : Nat.min m2 (m - lo) = q := hq
  have hcl : (ints k (src.take q)).length = q := by rw [ints_length, List.length_take]; omega
  have hlen : (ints k l).length = m := by rw [ints_length]; omega
  rcases Nat.eq_zero_or_pos m2 with hz | hpos
  · have hq0 : q = 0 := by omega
    have hrun := run_copy_none (P := P) w t t2 o.type e (some ⟨g, lo, none⟩) A2 (m - lo) dc m2 c2 ht hst (by rw [hz]; exact Nat.zero_min _)
    unfold Oper.wp execOp
    simp only [ho, resolve, invoke, builtin, Sem.run_bind, Sem.run_pure, Result.andThen_ok, List.map_toArray, List.map_cons, List.map_nil, hs.ev hx, hs.ev hy, hrun, Oper.upon]
    refine hk (.int .i64 ((0 : Nat) : Int)) w R hw ⟨by rw [hq0], ?_⟩
    rw [hq0]
    simp only [List.take_zero, List.append_nil, Nat.add_zero, List.take_append_drop]
    exact (by
      apply List.ext_getElem?
      intro j
      rw [List.getElem?_set]
      split
      · rename_i e; subst e; rw [if_pos (List.getElem?_eq_some_iff.1 hi).1, hi]
      · rfl)
  · obtain ⟨a2, rfl⟩ : ∃ a2, A2 = some a2 := by
      obtain ⟨a2, h, _⟩ := hr2.at_ 0 _ (List.getElem?_eq_getElem (by rw [ints_length]; omega))
      exact ⟨a2, h⟩
    have hrun := run_copy_row P w t t2 o.type e g lo (m - lo) dc a2 m2 c2 cur e (ints k (src.take q)) ht hst hg (by rw [hcl]; exact hq.symm) (fun j v hv => by
      obtain ⟨b, h1, h2⟩ := hr2.at_ j v (by
        rw [ints, List.map_take] at hv
        rw [List.getElem?_take] at hv
        split at hv
        · exact hv
        · cases hv)
      obtain rfl := Option.some.inj h1
      exact h2) (by rw [hcl, hcs]; omega) (ints_one k _)
    rw [hcl] at hrun
    unfold Oper.wp execOp
    simp only [ho, resolve, invoke, builtin, Sem.run_bind, Sem.run_pure, Result.andThen_ok, List.map_toArray, List.map_cons, List.map_nil, hs.ev hx, hs.ev hy, hrun, Oper.upon]
    refine hk (.int .i64 (q : Int)) _ _ ?_ ⟨rfl, rfl⟩
    refine hw.upd hi (row := some g) ⟨rfl, rfl, rfl, by simp, fun j _ hj => setRow_other w g j _ (fun e => hj (by simp [e]))⟩ (Nat.le_refl _) (fun j hj => by cases hj; exact ⟨_, rfl, rfl⟩) ?_ (fun a' ha' => .inl ⟨a', ha', rfl⟩)
    unfold Row.lies
    simp only
    refine ⟨?_, .inr ⟨g, c, _, rfl, hb, setRow_heap w g cur _ e _ hg, hnc, hcm, ?_, ?_⟩⟩
    · simp only [ints_length, List.length_append, List.length_take, List.length_drop]; omega
    · simp only [List.size_toArray, List.length_append, List.length_take, List.length_drop, Array.length_toList, ints_length]; omega
    · simp only [Nat.mul_one]
      rw [ints_append, ints_append]
      have e1 : ints k (l.take lo) = cur.toList.take lo := by
        rw [ints, List.map_take]
        show (ints k l).take lo = _
        rw [← htk, List.take_take, Nat.min_eq_left (by omega)]
      have e2 : ints k (l.drop (lo + q)) = (cur.toList.drop (lo + q)).take (m - (lo + q)) := by
        rw [ints, List.map_drop]
        show (ints k l).drop (lo + q) = _
        rw [← htk, List.drop_take]
      rw [e1, e2]
      have h1 : (cur.toList.take lo ++ ints k (src.take q)).length = lo + q := by
        rw [List.length_append, hcl, List.length_take, Array.length_toList]; omega
      rw [List.take_append, h1, List.take_of_length_le (by omega)]
theorem cut_zero {A : Option Addr} {c : Nat} : A = cutA A 0 c 1 := by
  unfold cutA
  split
  · rfl
  · cases A with
    | none => rfl
    | some a => simp [Addr.add]
/-- What is one number again and again, so far. -/
def repl (v : Int) (p N : Nat) : List Int := List.replicate p v ++ List.replicate (N - p) 0
theorem repl_zero (v : Int) (N : Nat) : repl v 0 N = List.replicate N 0 := by simp [repl]
theorem repl_all (v : Int) (N : Nat) : repl v N N = List.replicate N v := by simp [repl]
theorem repl_len {v : Int} {p N : Nat} (h : p ≤ N) : (repl v p N).length = N := by simp [repl]; omega
theorem repl_take {v : Int} {p N : Nat} : (repl v p N).take p = List.replicate p v := by simp [repl]
theorem repl_copy {v : Int} {p q N : Nat} {src : List Int} (h : p + q ≤ N) (hs : src = List.replicate q v) : (repl v p N).take p ++ src ++ (repl v p N).drop (p + q) = repl v (p + q) N := by
  subst hs
  rw [repl_take]
  unfold repl
  rw [List.drop_append]
  simp only [List.length_replicate, List.drop_replicate, show p - (p + q) = 0 by omega, List.replicate_zero, List.nil_append, List.replicate_append_replicate]
  congr 2
  omega
end
end Go.Eng
