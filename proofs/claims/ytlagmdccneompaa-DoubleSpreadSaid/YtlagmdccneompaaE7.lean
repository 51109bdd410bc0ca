/-
  The engine's rules for rows of whole numbers. Own work.
-/
import Derived.Test.YtlagmdccneompaaE6
namespace Go.Eng
open Go Go.RowKit
def upd (l : List Int) (i v : Int) : List Int := l.set i.toNat v
theorem ints_append (k : IntKind) (l m : List Int) : ints k (l ++ m) = ints k l ++ ints k m := by simp [ints]
theorem ints_upd (k : IntKind) (l : List Int) (i v : Int) : (ints k l).set i.toNat (.int k v) = ints k (upd l i v) := by simp [ints, upd, List.map_set]
theorem upd_length (l : List Int) (i v : Int) : (upd l i v).length = l.length := by simp [upd]
theorem rd_upd {l : List Int} {i j v : Int} (hi : 0 ≤ i) (hj : 0 ≤ j) (h : i < l.length) : rd (upd l i v) j = if j = i then v else rd l j := by
  unfold rd upd
  rw [List.getD_eq_getElem?_getD, List.getD_eq_getElem?_getD, List.getElem?_set]
  by_cases e : j = i
  · subst e
    have : j.toNat < l.length := by omega
    simp [this]
  · have : ¬ i.toNat = j.toNat := by omega
    simp [e, this]
theorem rd_append_left {l m : List Int} {i : Int} (h0 : 0 ≤ i) (h : i < l.length) : rd (l ++ m) i = rd l i := by
  unfold rd
  rw [List.getD_eq_getElem?_getD, List.getD_eq_getElem?_getD, List.getElem?_append_left (by omega)]
theorem rd_append_one {l : List Int} {x i : Int} (h : i = l.length) : rd (l ++ [x]) i = x := by
  subst h
  simp [rd]
theorem ints_one (k : IntKind) (l : List Int) : ∀ u ∈ ints k l, u.oneCell' = true := by
  intro u hu
  obtain ⟨x, _, rfl⟩ := List.mem_map.1 hu
  rfl
section
variable {P : Program} {n B : Nat} {w0 : World} {L : Env} {R : List Row} {ty : TypeId}
theorem rd_nil (k : IntKind) : RdC B w0 R none 0 0 1 (ints k []) := fun _ _ => ⟨rfl, by omega, by omega, fun j v hv => by simp [ints] at hv⟩
theorem rd_nilV (sz : Nat) : RdC B w0 R none 0 0 sz [] := fun _ _ => ⟨by simp, by omega, by omega, fun j v hv => by simp at hv⟩
theorem a_storeI {x y : Operand} {t e : TypeId} {j v : Int} {A : Option Addr} {m c : Nat} {k : IntKind} {l : List Int} (i : Nat) (hi : R[i]? = some ⟨e, 1, A, m, c, ints k l, false⟩) (hst : (P.info? t).map (·.size) = some 1) (hx : ev L x = some (.pointer (pat A j.toNat))) (hy : ev L y = some (.int k v)) (h0 : 0 ≤ j) (h1 : j < m) :
    Ac P n B w0 (.store t x y) ty L R (fun _ R' => R' = R.set i ⟨e, 1, A, m, c, ints k (upd l j v), false⟩) := by
  intro a w o K Q ho hty hs hp hk
  have hown := Row.lies_w (hp.own _ (List.mem_of_getElem? hi)) rfl
  have hrd := Row.rd (hp.own _ (List.mem_of_getElem? hi))
  have hl := hrd.len
  obtain ⟨g, hA⟩ : ∃ g, A = some ⟨g, 0, none⟩ := by
    rcases hown.2 with ⟨_, hn⟩ | ⟨g, cap, cur, hv, _⟩
    · simp only at hn; omega
    · simp only [Value.slice.injEq] at hv
      exact ⟨g, hv.1⟩
  have := a_store (P := P) (n := n) (B := B) (w0 := w0) (ty := ty) i hi rfl hA hst hx rfl hy rfl rfl (by rw [hl]; simp only; omega)
  simp only [ints_upd] at this
  exact this a w o K Q ho hty hs hp hk
theorem a_appendI {s x : Operand} {t e : TypeId} {bytes m p c c2 : Nat} {A A2 : Option Addr} {k : IntKind} {l news : List Int} (i : Nat) (hi : R[i]? = some ⟨e, 1, A, p, c, ints k l, false⟩) (ht : P.underlying t = some (.slice e)) (hinfo : (P.info? e).map (fun i => (i.zero, i.size, i.bytes)) = some (some (.int k 0), 1, bytes)) (hb0 : Nat.blt 0 bytes = true)
    (hs : ev L s = some (.slice A p c)) (hx : ev L x = some (.slice A2 m c2)) (hrd : RdC B w0 R A2 m c2 1 (ints k news)) (hbytes : (p + m) * bytes ≤ 140737488355328) :
    Ac P n B w0 (.call { callee := .builtin .append, args := #[s, x], argTypes := #[t, t] }) ty L R (fun v R' => ∃ A' c', v = .slice A' (p + m) c' ∧ R' = R.set i ⟨e, 1, A', p + m, c', ints k (l ++ news), false⟩) := by
  have := a_append (P := P) (n := n) (B := B) (w0 := w0) (ty := ty) i hi rfl ht hinfo rfl rfl hb0 hs hx hrd (ints_one k news) hbytes
  simp only [← ints_append] at this
  exact this
theorem rep_ints (k : IntKind) (m : Nat) (x : Int) : List.replicate m (Value.int k x) = ints k (List.replicate m x) := by simp [ints]
theorem a_makeN {x y : Operand} {t e : TypeId} {k : IntKind} {bytes : Nat} {m : Int} (ht : P.underlying t = some (.slice e)) (hinfo : (P.info? e).map (fun i => (i.zero, i.size, i.bytes)) = some (some (.int k 0), 1, bytes))
    (hx : ev L x = some (.int .i64 m)) (hy : ev L y = some (.int .i64 m)) (h0 : 0 ≤ m) (hm : m * bytes ≤ 281474976710656) (hm' : m ≤ 9223372036854775807) :
    Ac P n B w0 (.makeSlice t x y) ty L R (fun v R' => ∃ g, v = .slice (some ⟨g, 0, none⟩) m.toNat m.toNat ∧ R' = ⟨e, 1, some ⟨g, 0, none⟩, m.toNat, m.toNat, ints k (List.replicate m.toNat 0), false⟩ :: R) := by
  have := a_makeI (P := P) (n := n) (B := B) (w0 := w0) (L := L) (R := R) (ty := ty) ht hinfo rfl hx hy h0 hm hm'
  simpa only [rep_ints] using this
theorem Yl.t {op : Op} {p : Prop} [Decidable p] (hy : Yl P n B w0 op ty L R (.bool (decide p))) (h : p) : Yl P n B w0 op ty L R (.bool true) := by rwa [decide_eq_true h] at hy
theorem Yl.f {op : Op} {p : Prop} [Decidable p] (hy : Yl P n B w0 op ty L R (.bool (decide p))) (h : ¬ p) : Yl P n B w0 op ty L R (.bool false) := by rwa [decide_eq_false h] at hy
theorem Yl.is {op : Op} {v u : Value} (hy : Yl P n B w0 op ty L R v) (h : v = u) : Yl P n B w0 op ty L R u := h ▸ hy
theorem wr_setT {ops : Array Oper} {l : List Oper} {K : Env → List Row → Prop} (d : Nat) {p : Prop} [Decidable p] (h : lk L d = some (.bool (decide p))) (hp : p) (hn : WR P n B w0 ops l K ((d, .bool true) :: L) R) : WR P n B w0 ops l K L R :=
  wr_sub (lk_shadow (by rw [h, decide_eq_true hp])) (fun _ h => h) hn
theorem wr_setF {ops : Array Oper} {l : List Oper} {K : Env → List Row → Prop} (d : Nat) {p : Prop} [Decidable p] (h : lk L d = some (.bool (decide p))) (hp : ¬ p) (hn : WR P n B w0 ops l K ((d, .bool false) :: L) R) : WR P n B w0 ops l K L R :=
  wr_sub (lk_shadow (by rw [h, decide_eq_false hp])) (fun _ h => h) hn
theorem wpList_append {ops : Array Oper} {l2 : List Oper} {Q : Exit → Act → World → Prop} : ∀ (l1 : List Oper) (a : Act) (w : World), wpList P ops (fun e a w => match e with | .normal => wpList P ops Q l2 a w | e => Q e a w) l1 a w → wpList P ops Q (l1 ++ l2) a w
  | [], a, w, h => h
  | o :: l1, a, w, h => by
    simp only [List.cons_append]
    unfold wpList at h ⊢
    split
    · rename_i hw
      rw [if_pos hw] at h
      rcases h with h | ⟨h1, h2⟩
      · left
        unfold Oper.wp at h ⊢
        generalize (execOp a.eval o).run P w = r at *
        cases r with
        | ok n w' =>
          cases n <;> simp only [Oper.upon] at h ⊢ <;> first
            | exact wpList_append l1 _ _ h
            | exact Calls.mono h (fun e w'' he => by cases e <;> first | exact wpList_append l1 _ _ he | exact he)
            | exact Rows.mono h (fun _ _ he => wpList_append l1 _ _ he)
        | halt x w' => cases x <;> simp only [Oper.upon] at h ⊢ <;> exact h
      · exact .inr ⟨h1, h2⟩
    · rename_i hw
      rw [if_neg hw] at h
      exact wpList_append l1 _ _ h
/-- The ways meet within a region, behind its next k operations. -/
theorem wr_mid {ops : Array Oper} {l : List Oper} {K : Env → List Row → Prop} (k : Nat) (L1 : Env) (R1 : List Row) (h1 : WR P n B w0 ops (l.take k) (fun L' R' => Sub L1 L' ∧ ∀ w, Hp B w0 w R' → Hp B w0 w R1) L R) (h2 : WR P n B w0 ops (l.drop k) K L1 R1) : WR P n B w0 ops l K L R := by
  intro a w Q hs hp hq
  rw [← List.take_append_drop k l]
  refine wpList_append _ a w (h1 a w _ hs hp fun a' w' L' R' hs' hp' ⟨hL, hR⟩ => ?_)
  exact h2 a' w' Q (hs'.sub hL) (hR w' hp') hq
theorem mb_t {p : Prop} [Decidable p] (h : p) : Value.bool true = Value.bool (decide p) := by rw [decide_eq_true h]
theorem mb_f {p : Prop} [Decidable p] (h : ¬ p) : Value.bool false = Value.bool (decide p) := by rw [decide_eq_false h]
theorem mb {p q : Prop} [Decidable p] [Decidable q] (h : p ↔ q) : Value.bool (decide p) = Value.bool (decide q) := by rw [decide_eq_decide.2 h]
def enu : Nat → List Value → List (Nat × Value)
  | _, [] => []
  | k, v :: vs => (k, v) :: enu (k + 1) vs
theorem cells_one {v : Value} (h : v.oneCell' = true) : v.cells = #[v] := by cases v <;> first | rfl | (simp [Value.oneCell'] at h)
theorem fill_enu : ∀ (vs pre post : List Value), vs.all (·.oneCell') = true → vs.length = post.length → Instr.fill (fun i => some (i * 1, 1)) (pre ++ post).toArray (enu pre.length vs) = some (pre ++ vs).toArray
  | [], pre, post, _, hl => by
    have : post = [] := List.eq_nil_of_length_eq_zero (by simpa using hl.symm)
    subst this
    simp [enu, Instr.fill]
  | v :: vs, pre, post, h1, hl => by
    cases post with
    | nil => simp at hl
    | cons q post =>
      simp only [List.all_cons, Bool.and_eq_true] at h1
      have hc := cells_one h1.1
      have ih := fill_enu vs (pre ++ [v]) post h1.2 (by simpa using hl)
      simp only [List.length_append, List.length_singleton] at ih
      simp only [enu, Instr.fill, Nat.mul_one]
      rw [hc]
      have hn : ¬ ((#[v] : Array Value).size ≠ 1 ∨ pre.length + (#[v] : Array Value).size > (pre ++ q :: post).toArray.size) := by simp
      simp only [hn, Bool.or_eq_true, decide_eq_true_eq, if_false]
      have e : ((#[v] : Array Value).zipIdx.foldl (fun cs x => cs.setIfInBounds (pre.length + x.2) x.1) (pre ++ q :: post).toArray) = (pre ++ [v] ++ post).toArray := by
        simp
      simp only [Nat.mul_one, List.append_assoc, List.cons_append, List.nil_append] at ih
      simp only [e, List.append_assoc, List.cons_append, List.nil_append]
      exact ih
/-- A slice of one-cell elements, written out. -/
theorem a_lit {t e : TypeId} {z : Value} {len : Nat} {ps : List (Nat × Operand)} (vals : List Value) (ht : P.underlying t = some (.slice e)) (hinfo : (P.info? e).map (fun i => (i.zero, i.size)) = some (some z, 1)) (hv : evp L ps = some (enu 0 vals))
    (h1 : vals.all (·.oneCell') = true) (hl : vals.length = len) (hsmall : Nat.ble len 16777216 = true) :
    Ac P n B w0 (.buildSlice t len ps.toArray) ty L R (fun v R' => ∃ g, v = .slice (some ⟨g, 0, none⟩) len len ∧ R' = ⟨e, 1, some ⟨g, 0, none⟩, len, len, vals, false⟩ :: R) := by
  have hf := fill_enu vals [] (((Array.range (len * 1)).map ((bif Nat.beq (len * 1) 0 then #[] else z.cells)[· % (bif Nat.beq (len * 1) 0 then #[] else z.cells).size]!)).toList) h1 (by simp [hl])
  simp only [List.length_nil, List.nil_append, Array.toArray_toList] at hf
  have := a_buildSlice (P := P) (n := n) (B := B) (w0 := w0) (L := L) (R := R) (ty := ty) (len := len) ht hinfo hv (by rw [Nat.mul_one]; exact hsmall) hsmall hf (by simp [hl])
  simpa using this
/-- A slice of numbers, written out. -/
theorem a_litI {t e : TypeId} {z : Value} {len : Nat} {ps : List (Nat × Operand)} (k : IntKind) (l : List Int) (ht : P.underlying t = some (.slice e)) (hinfo : (P.info? e).map (fun i => (i.zero, i.size)) = some (some z, 1)) (hv : evp L ps = some (enu 0 (ints k l)))
    (hl : l.length = len) (hsmall : Nat.ble len 16777216 = true) :
    Ac P n B w0 (.buildSlice t len ps.toArray) ty L R (fun v R' => ∃ g, v = .slice (some ⟨g, 0, none⟩) len len ∧ R' = ⟨e, 1, some ⟨g, 0, none⟩, len, len, ints k l, false⟩ :: R) :=
  a_lit (ints k l) ht hinfo hv (by rw [List.all_eq_true]; exact ints_one k l) (by rw [ints_length, hl]) hsmall
theorem Rd.lenI {w : World} {A : Option Addr} {m c : Nat} {k : IntKind} {l : List Int} (h : Rd w A m c 1 (ints k l)) : m = l.length := by
  have := h.len
  rw [ints_length] at this
  omega
/-- A constant row of bytes, laid and marked. -/
theorem Ct.quiet2 {f : FuncId} {args : Array Value} {R : List Row} {Post : Value → List Row → Prop} (h : Ct P f args B w0 R Post) (hp : ∀ v R', Post v R' → ∃ Rn, R' = Rn ++ R) : Ct P f args B w0 R (fun v R' => R' = R ∧ ∃ R1, Post v R1) :=
  fun w hw => (h w hw).mono fun _ _ ⟨v, R', he, hh, hv⟩ => by
    obtain ⟨Rn, rfl⟩ := hp v R' hv
    exact ⟨v, R, he, hh.right, rfl, _, hv⟩
end
end Go.Eng
