/-
  Engine: slices of pairs, structs behind pointers. Own work.
-/
import Derived.Test.YtdfcnalkdlifiaaE10
namespace Go.Eng
open Go Go.RowKit
/-- Pairs of numbers, cell by cell. -/
def prs (l : List (Int × Int)) : List Value := l.flatMap fun p => [.int .i64 p.1, .int .i64 p.2]
def rdp (l : List (Int × Int)) (i : Int) : Int × Int := l.getD i.toNat (0, 0)
theorem prs_length : ∀ l : List (Int × Int), (prs l).length = l.length * 2
  | [] => rfl
  | p :: l => by
    have := prs_length l
    unfold prs at *
    rw [List.flatMap_cons, List.length_append, this]
    simp
    omega
theorem prs_append (l m : List (Int × Int)) : prs (l ++ m) = prs l ++ prs m := by simp [prs]
theorem prs_drop : ∀ (l : List (Int × Int)) (i : Nat), (prs l).drop (i * 2) = prs (l.drop i)
  | l, 0 => by simp
  | [], i + 1 => by simp [prs]
  | p :: l, i + 1 => by
    have := prs_drop l i
    have e : (i + 1) * 2 = i * 2 + 1 + 1 := by omega
    rw [e]
    show ((Value.int .i64 p.1 :: Value.int .i64 p.2 :: prs l).drop (i * 2 + 1 + 1)) = _
    rw [List.drop_succ_cons, List.drop_succ_cons, this]
    rfl
theorem rdp_drop {l : List (Int × Int)} {i : Int} (h0 : 0 ≤ i) (h : i < l.length) : l.drop i.toNat = rdp l i :: l.drop (i + 1).toNat := by
  have hl : i.toNat < l.length := by omega
  have e : (i + 1).toNat = i.toNat + 1 := by omega
  rw [e, List.drop_eq_getElem_cons hl]
  simp [rdp, List.getD_eq_getElem?_getD, List.getElem?_eq_getElem hl]
theorem prs_at {l : List (Int × Int)} {i : Int} (h0 : 0 ≤ i) (h : i < l.length) : ((prs l).drop (i.toNat * 2)).take 2 = [.int .i64 (rdp l i).1, .int .i64 (rdp l i).2] := by
  rw [prs_drop, rdp_drop h0 h]
  rfl
theorem prs_one (l : List (Int × Int)) : ∀ v ∈ prs l, v.oneCell' = true := by
  intro v hv
  unfold prs at hv
  obtain ⟨p, _, hp⟩ := List.mem_flatMap.1 hv
  simp at hp
  rcases hp with rfl | rfl <;> rfl
section
variable {P : Program} {n : Nd} {B : Nat} {w0 : World} {L : Env} {R : List Row} {ty : TypeId}
theorem y_ldP {x : Operand} {t : TypeId} {d : TypeDesc} {A : Option Addr} {m c : Nat} {l : List (Int × Int)} {i : Int} (hu : P.underlying t = some d) (hd : aggB d = true) (hst : (P.info? t).map (·.size) = some 2) (hx : ev L x = some (.pointer (pat A (i.toNat * 2)))) (hr : RdC B w0 R A m c 2 (prs l)) (h0 : 0 ≤ i) (h1 : i < l.length) :
    Yl P n B w0 (.load t x) ty L R (.agg #[.int .i64 (rdp l i).1, .int .i64 (rdp l i).2]) := by
  have := y_ldA (P := P) (n := n) (B := B) (w0 := w0) (R := R) (ty := ty) hu hd hst hx rfl hr (by rw [prs_length]; omega) (by omega)
  rwa [prs_at h0 h1] at this
theorem a_appendP {s x : Operand} {t e : TypeId} {z : Value} {bytes m p c c2 : Nat} {A A2 : Option Addr} {l news : List (Int × Int)} (i : Nat) (hi : R[i]? = some ⟨e, 2, A, p, c, prs l, false⟩) (ht : P.underlying t = some (.slice e)) (hinfo : (P.info? e).map (fun i => (i.zero, i.size, i.bytes)) = some (some z, 2, bytes)) (hz : z.cells.size = 2) (hb0 : Nat.blt 0 bytes = true)
    (hs : ev L s = some (.slice A p c)) (hx : ev L x = some (.slice A2 m c2)) (hrd : RdC B w0 R A2 m c2 2 (prs news)) (hbytes : (p + m) * bytes ≤ 140737488355328) :
    Ac P n B w0 (.call { callee := .builtin .append, args := #[s, x], argTypes := #[t, t] }) ty L R (fun v R' => ∃ A' c', v = .slice A' (p + m) c' ∧ R' = R.set i ⟨e, 2, A', p + m, c', prs (l ++ news), false⟩) := by
  have := a_append (P := P) (n := n) (B := B) (w0 := w0) (ty := ty) i hi rfl ht hinfo hz rfl hb0 hs hx hrd (prs_one news) hbytes
  simp only [← prs_append] at this
  exact this
theorem a_litP {t e : TypeId} {x : Operand} {a b : Int} (ht : P.underlying t = some (.slice e)) (hinfo : (P.info? e).map (fun i => (i.zero, i.size)) = some (some (.agg #[.int .i64 0, .int .i64 0]), 2)) (hx : ev L x = some (.agg #[.int .i64 a, .int .i64 b])) :
    Ac P n B w0 (.buildSlice t 1 #[(0, x)]) ty L R (fun v R' => ∃ g, v = .slice (some ⟨g, 0, none⟩) 1 1 ∧ R' = ⟨e, 2, some ⟨g, 0, none⟩, 1, 1, prs [(a, b)], false⟩ :: R) := by
  have hv : evp L [(0, x)] = some [(0, .agg #[.int .i64 a, .int .i64 b])] := by simp [evp, hx]
  exact a_buildSlice (P := P) (n := n) (B := B) (w0 := w0) (L := L) (R := R) (ty := ty) (len := 1) (ps := [(0, x)]) (cells := #[.int .i64 a, .int .i64 b]) ht hinfo hv (by decide) (by decide) (by kernel_rfl) (by rfl)
theorem prs_none {w : World} {m c : Nat} {l : List (Int × Int)} (h : Rd w none m c 2 (prs l)) : l = [] := by
  cases l with
  | nil => rfl
  | cons p l =>
    obtain ⟨a, ha, _⟩ := h.at_ 0 (.int .i64 p.1) rfl
    cases ha
/-- No pairs yet. -/
theorem Hp.nilP {w : World} (h : Hp B w0 w R) (e : TypeId) : Hp B w0 w (⟨e, 2, none, 0, 0, prs [], false⟩ :: R) := h.nil e 2
/-! what a pointer leads to, where the cells are known -/
theorem y_ldIn {x : Operand} {t : TypeId} {d : TypeDesc} {g j m c sz : Nat} {xs : List Value} {v : Value} (hr : RdC B w0 R (some ⟨g, 0, none⟩) m c sz xs) (hu : P.underlying t = some d) (hd : aggB d = false) (hx : ev L x = some (.pointer (some ⟨g, j, none⟩))) (hv : xs[j]? = some v) : Yl P n B w0 (.load t x) ty L R v :=
  y_ld hu hd hx (by simp only [pat, Option.map_some, addr0]) hr hv
theorem y_ldInA {x : Operand} {t : TypeId} {d : TypeDesc} {g j st m c sz : Nat} {xs vs : List Value} (hr : RdC B w0 R (some ⟨g, 0, none⟩) m c sz xs) (hu : P.underlying t = some d) (hd : aggB d = true) (hst : (P.info? t).map (·.size) = some st) (hx : ev L x = some (.pointer (some ⟨g, j, none⟩))) (hv : (xs.drop j).take st = vs) (hj : j + st ≤ xs.length) (hs0 : Nat.blt 0 st = true) : Yl P n B w0 (.load t x) ty L R (.agg vs.toArray) := by
  have := y_ldA (P := P) (n := n) (B := B) (w0 := w0) (ty := ty) hu hd hst hx (by simp only [pat, Option.map_some, addr0]) hr hj (Nat.le_of_ble_eq_true hs0)
  rwa [hv] at this
theorem y_indexIn {x ix : Operand} {t e : TypeId} {k : IntKind} {g j q N m c sz : Nat} {i : Int} {xs : List Value} (hr : RdC B w0 R (some ⟨g, 0, none⟩) m c sz xs) (ht : P.underlying t = some (.array N e)) (hi : (P.info? e).map (·.size) = some 1) (hx : ev L x = some (.pointer (some ⟨g, j, none⟩))) (hix : ev L ix = some (.int k i)) (hlt : j < xs.length) (h0 : 0 ≤ i) (h1 : i < N) (hq : j + i.toNat = q) :
    Yl P n B w0 (.indexAddr t x ix) ty L R (.pointer (some ⟨g, q, none⟩)) := by
  subst hq
  have hpp : (some ⟨g, j, none⟩ : Option Addr) = pat (some ⟨g, 0, none⟩) j := by
    simp only [pat, Option.map_some, addr0]
  have := y_indexArr (P := P) (n := n) (B := B) (w0 := w0) (ty := ty) ht hi hx hpp hix hr hlt h0 h1
  rw [Nat.mul_one] at this
  simpa only [pat, Option.map_some, addr0] using this
theorem y_build {t : TypeId} {ps : List (Nat × Operand)} {vs : List (Nat × Value)} {v : Value} (hv : evp L ps = some vs) (h : ∀ w, (Instr.build t vs.toArray).run P w = .ok v w) : Yl P n B w0 (.build t ps.toArray) ty L R v := by
  intro a w o ho _ hs _
  have hev := hs.evp hv
  simp [execOp, ho, hev, h]
/-- What lay in blocks that stay lies there still. -/
theorem Rd.kept {w w' : World} {A : Option Addr} {m c sz : Nat} {xs : List Value} (h : Rd w A m c sz xs) (hk : ∀ a, A = some a → w'.heap[a.block]? = w.heap[a.block]?) : Rd w' A m c sz xs :=
  ⟨h.len, h.max, h.le, fun j v hv => by
    obtain ⟨a, ha, hc⟩ := h.at_ j v hv
    refine ⟨a, ha, ?_⟩
    have hb : (a.add j).block = a.block := by unfold Addr.add; by_cases h0 : j = 0 <;> simp [h0]
    exact (World.cell?_of_block (by rw [hb]; exact hk a ha)).trans hc⟩
theorem prs_take (l : List (Int × Int)) (i : Nat) : (prs l).take (i * 2) = prs (l.take i) := by
  have h : prs l = prs (l.take i) ++ prs (l.drop i) := by rw [← prs_append, List.take_append_drop]
  have hl := prs_length (l.take i)
  rw [List.length_take] at hl
  rw [h]
  by_cases hi : i ≤ l.length
  · rw [List.take_append_of_le_length (by omega), List.take_of_length_le (by omega)]
  · rw [List.drop_of_length_le (by omega), show prs [] = [] from rfl, List.append_nil, List.take_of_length_le (by omega)]
theorem RdC.toP {A : Option Addr} {m h c : Nat} {l : List (Int × Int)} (hr : RdC B w0 R A m c 2 (prs l)) (h2 : h ≤ m) : RdC B w0 R A h c 2 (prs (l.take h)) := by
  have := hr.to h2
  rwa [prs_take] at this
theorem RdC.fromP {A : Option Addr} {m c h : Nat} {l : List (Int × Int)} (hr : RdC B w0 R A m c 2 (prs l)) (h1 : h ≤ m) : RdC B w0 R (cutA A h c 2) (m - h) (c - h) 2 (prs (l.drop h)) := by
  intro w hw
  have hl := (hr w hw).len
  have := hr.cut h1 (Nat.le_refl m) w hw
  rw [prs_drop, List.take_of_length_le (by rw [prs_length, List.length_drop]; rw [prs_length] at hl; omega)] at this
  exact this
/-- Is a slice nil? -/
theorem run_slNilIn (k : Nat) (t e : TypeId) (A : Option Addr) (m c : Nat) (ht : P.underlying t = some (.slice e)) (w : World) : (Op.equalIn (k + 1) t (.slice A m c) (.slice none 0 0)).run P w = .ok A.isNone w := by
  cases A <;> simp [Op.equalIn, run_underlying ht]
theorem run_slNil (t e : TypeId) (A : Option Addr) (m c : Nat) (ht : P.underlying t = some (.slice e)) (w : World) : (Op.equal t (.slice A m c) (.slice none 0 0)).run P w = .ok A.isNone w := run_slNilIn 9999 t e A m c ht w
theorem y_slNil {x y : Operand} {t u e : TypeId} {A : Option Addr} {m c : Nat} (ht : P.underlying t = some (.slice e)) (hx : ev L x = some (.slice A m c)) (hy : ev L y = some (.slice none 0 0)) : Yl P n B w0 (.binOp .eql t x y u) ty L R (.bool A.isNone) := by
  intro a w o ho _ hs _
  simp [execOp, ho, binOp, eqGuard, hs.ev hx, hs.ev hy, run_slNil t e A m c ht]
theorem a_litP0 {t e : TypeId} (ht : P.underlying t = some (.slice e)) (hinfo : (P.info? e).map (fun i => (i.zero, i.size)) = some (some (.agg #[.int .i64 0, .int .i64 0]), 2)) :
    Ac P n B w0 (.buildSlice t 0 #[]) ty L R (fun v R' => ∃ g, v = .slice (some ⟨g, 0, none⟩) 0 0 ∧ R' = ⟨e, 2, some ⟨g, 0, none⟩, 0, 0, prs [], false⟩ :: R) :=
  a_buildSlice (P := P) (n := n) (B := B) (w0 := w0) (L := L) (R := R) (ty := ty) (len := 0) (ps := []) (vs := []) (cells := #[]) ht hinfo rfl (by decide) (by decide) (by kernel_rfl) (by rfl)
/-- Rows by their places ahead of the others. -/
theorem Hp.selR {w : World} {F F' : List Row} (h : Hp B w0 w (F ++ R)) (is : List Nat) (hn : is.Nodup) (hR : is.map (fun i => F[i]?) = F'.map some) : Hp B w0 w (F' ++ R) := by
  have hp := List.pairwise_append.1 h.apart
  have hF : Hp B w0 w F := ⟨h.below, h.base, fun r hr => h.own r (List.mem_append.2 (.inl hr)), hp.1, h.late⟩
  have hF' := hF.sel is hn hR
  have mem : ∀ q ∈ F', q ∈ F := by
    intro q hq
    have h1 : some q ∈ F'.map some := List.mem_map.2 ⟨q, hq, rfl⟩
    rw [← hR] at h1
    obtain ⟨i, _, hi⟩ := List.mem_map.1 h1
    exact List.mem_of_getElem? hi
  refine ⟨h.below, h.base, fun r hr => ?_, List.pairwise_append.2 ⟨hF'.apart, hp.2.1, fun q hq r hr => hp.2.2 q (mem q hq) r hr⟩, h.late⟩
  rcases List.mem_append.1 hr with h1 | h1
  · exact h.own r (List.mem_append.2 (.inl (mem r h1)))
  · exact h.own r (List.mem_append.2 (.inr h1))
end
end Go.Eng
