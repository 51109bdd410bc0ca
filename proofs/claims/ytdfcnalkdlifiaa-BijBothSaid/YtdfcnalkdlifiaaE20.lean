/-
  Engine: slices of truth values. Own work.
-/
import Derived.Test.YtdfcnalkdlifiaaE8
namespace Go.Eng
open Go Go.RowKit
def bools (l : List Bool) : List Value := l.map Value.bool
def rdb (l : List Bool) (i : Int) : Bool := l.getD i.toNat false
def updB (l : List Bool) (i : Int) (v : Bool) : List Bool := l.set i.toNat v
theorem bools_length (l : List Bool) : (bools l).length = l.length := by simp [bools]
theorem bools_append (l m : List Bool) : bools (l ++ m) = bools l ++ bools m := by simp [bools]
theorem bools_upd (l : List Bool) (i : Int) (v : Bool) : (bools l).set i.toNat (.bool v) = bools (updB l i v) := by simp [bools, updB, List.map_set]
theorem bools_one (l : List Bool) : ∀ u ∈ bools l, u.oneCell' = true := by
  intro u hu
  obtain ⟨b, _, rfl⟩ := List.mem_map.1 hu
  rfl
theorem bools_at {l : List Bool} {i : Int} (h0 : 0 ≤ i) (h : i < l.length) : (bools l)[i.toNat]? = some (.bool (rdb l i)) := by
  have hl : i.toNat < l.length := by omega
  simp [bools, rdb, List.getD_eq_getElem?_getD, List.getElem?_eq_getElem hl]
theorem rep_bools (m : Nat) (x : Bool) : List.replicate m (Value.bool x) = bools (List.replicate m x) := by simp [bools]
theorem updB_len (l : List Bool) (i : Int) (v : Bool) : (updB l i v).length = l.length := by simp [updB]
theorem rdb_upd {l : List Bool} {i j : Int} {v : Bool} (h0 : 0 ≤ i) (h : i < l.length) (j0 : 0 ≤ j) : rdb (updB l i v) j = if j = i then v else rdb l j := by
  unfold rdb updB
  rw [List.getD_eq_getElem?_getD, List.getElem?_set, List.getD_eq_getElem?_getD]
  by_cases e : j = i
  · subst e
    rw [if_pos rfl, if_pos (by omega), if_pos rfl]
    rfl
  · rw [if_neg (by omega), if_neg e]
theorem rdb_rep (m : Nat) (i : Int) : rdb (List.replicate m false) i = false := by
  unfold rdb
  rw [List.getD_eq_getElem?_getD, List.getElem?_replicate]
  split <;> rfl
theorem rdb_append {l m : List Bool} {i : Int} (h0 : 0 ≤ i) : rdb (l ++ m) i = if i < l.length then rdb l i else rdb m (i - l.length) := by
  unfold rdb
  rw [List.getD_eq_getElem?_getD, List.getElem?_append]
  split
  · rw [if_pos (by omega), List.getD_eq_getElem?_getD]
  · rw [if_neg (by omega), List.getD_eq_getElem?_getD]
    congr 2
    omega
theorem bools_ext {l m : List Bool} (hl : l.length = m.length) (h : ∀ i : Int, 0 ≤ i → i < l.length → rdb l i = rdb m i) : l = m := by
  apply List.ext_getElem hl
  intro i h1 h2
  have := h i (by omega) (by omega)
  simpa [rdb, List.getD_eq_getElem?_getD, List.getElem?_eq_getElem h1, List.getElem?_eq_getElem h2] using this
section
variable {P : Program} {n : Nd} {B : Nat} {w0 : World} {L : Env} {R : List Row} {ty : TypeId}
theorem Rd.lenB {w : World} {A : Option Addr} {m c : Nat} {l : List Bool} (h : Rd w A m c 1 (bools l)) : m = l.length := by
  have := h.len
  rw [bools_length] at this
  omega
theorem y_ldB {x : Operand} {t : TypeId} {d : TypeDesc} {A : Option Addr} {m c : Nat} {l : List Bool} {i : Int} (hu : P.underlying t = some d) (hd : aggB d = false) (hx : ev L x = some (.pointer (pat A i.toNat))) (hr : RdC B w0 R A m c 1 (bools l)) (h0 : 0 ≤ i) (h1 : i < m) :
    Yl P n B w0 (.load t x) ty L R (.bool (decide (rdb l i = true))) := by
  intro a w o ho hty hs hw
  have hl := (hr w hw).lenB
  rw [show decide (rdb l i = true) = rdb l i by cases rdb l i <;> rfl]
  exact y_ld hu hd hx rfl hr (bools_at h0 (by omega)) a w o ho hty hs hw
theorem a_storeB {x y : Operand} {t e : TypeId} {j : Int} {v : Bool} {A : Option Addr} {m c : Nat} {l : List Bool} (i : Nat) (hi : R[i]? = some ⟨e, 1, A, m, c, bools l, false⟩) (hst : (P.info? t).map (·.size) = some 1) (hx : ev L x = some (.pointer (pat A j.toNat))) (hy : ev L y = some (.bool v)) (h0 : 0 ≤ j) (h1 : j < m) :
    Ac P n B w0 (.store t x y) ty L R (fun _ R' => R' = R.set i ⟨e, 1, A, m, c, bools (updB l j v), false⟩) := by
  intro a w o K Q ho hty hs hp hk
  have hown := Row.lies_w (hp.own _ (List.mem_of_getElem? hi)) rfl
  have hrd := Row.rd (hp.own _ (List.mem_of_getElem? hi))
  have hl := hrd.len
  obtain ⟨g, hA⟩ : ∃ g, A = some ⟨g, 0, none⟩ := by
    rcases hown.2 with ⟨_, hn⟩ | ⟨g, cap, cur, hv, _⟩
    · simp only at hn; omega
    · simp only [Value.slice.injEq] at hv
      exact ⟨g, hv.1⟩
  have := a_store (P := P) (n := n) (B := B) (w0 := w0) (ty := ty) i hi rfl hA hst hx rfl hy rfl rfl (by rw [hl]; simp only; omega)
  simp only [bools_upd] at this
  exact this a w o K Q ho hty hs hp hk
theorem a_appendB {s x : Operand} {t e : TypeId} {bytes m p c c2 : Nat} {A A2 : Option Addr} {l news : List Bool} (i : Nat) (hi : R[i]? = some ⟨e, 1, A, p, c, bools l, false⟩) (ht : P.underlying t = some (.slice e)) (hinfo : (P.info? e).map (fun i => (i.zero, i.size, i.bytes)) = some (some (.bool false), 1, bytes)) (hb0 : Nat.blt 0 bytes = true)
    (hs : ev L s = some (.slice A p c)) (hx : ev L x = some (.slice A2 m c2)) (hrd : RdC B w0 R A2 m c2 1 (bools news)) (hbytes : (p + m) * bytes ≤ 140737488355328) :
    Ac P n B w0 (.call { callee := .builtin .append, args := #[s, x], argTypes := #[t, t] }) ty L R (fun v R' => ∃ A' c', v = .slice A' (p + m) c' ∧ R' = R.set i ⟨e, 1, A', p + m, c', bools (l ++ news), false⟩) := by
  have := a_append (P := P) (n := n) (B := B) (w0 := w0) (ty := ty) i hi rfl ht hinfo rfl rfl hb0 hs hx hrd (bools_one news) hbytes
  simp only [← bools_append] at this
  exact this
theorem a_makeB {x y : Operand} {t e : TypeId} {bytes : Nat} {m : Int} (ht : P.underlying t = some (.slice e)) (hinfo : (P.info? e).map (fun i => (i.zero, i.size, i.bytes)) = some (some (.bool false), 1, bytes))
    (hx : ev L x = some (.int .i64 m)) (hy : ev L y = some (.int .i64 m)) (h0 : 0 ≤ m) (hm : m * bytes ≤ 281474976710656) (hm' : m ≤ 9223372036854775807) :
    Ac P n B w0 (.makeSlice t x y) ty L R (fun v R' => ∃ g, v = .slice (some ⟨g, 0, none⟩) m.toNat m.toNat ∧ R' = ⟨e, 1, some ⟨g, 0, none⟩, m.toNat, m.toNat, bools (List.replicate m.toNat false), false⟩ :: R) := by
  have := a_makeI (P := P) (n := n) (B := B) (w0 := w0) (L := L) (R := R) (ty := ty) ht hinfo rfl hx hy h0 hm hm'
  simpa only [rep_bools] using this
theorem a_litB {t e : TypeId} {z : Value} {len : Nat} {ps : List (Nat × Operand)} (l : List Bool) (ht : P.underlying t = some (.slice e)) (hinfo : (P.info? e).map (fun i => (i.zero, i.size)) = some (some z, 1)) (hv : evp L ps = some (enu 0 (bools l)))
    (hl : l.length = len) (hsmall : Nat.ble len 16777216 = true) :
    Ac P n B w0 (.buildSlice t len ps.toArray) ty L R (fun v R' => ∃ g, v = .slice (some ⟨g, 0, none⟩) len len ∧ R' = ⟨e, 1, some ⟨g, 0, none⟩, len, len, bools l, false⟩ :: R) :=
  a_lit (bools l) ht hinfo hv (by rw [List.all_eq_true]; exact bools_one l) (by rw [bools_length, hl]) hsmall
end
end Go.Eng
