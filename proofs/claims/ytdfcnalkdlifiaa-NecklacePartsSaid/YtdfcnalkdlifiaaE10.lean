/-
  Engine: slices of slices that came in. Own work.
-/
import Derived.Test.YtdfcnalkdlifiaaE9
import Derived.Deep.Matrix
import Derived.Laws.Rows
import Derived.SizedLaws
namespace Go.Eng
open Go Go.RowKit
/-- Row number i. -/
def rdl (ls : List (List Int)) (i : Int) : List Int := ls.getD i.toNat []
theorem rdl_drop {ls : List (List Int)} {i : Int} (h0 : 0 ≤ i) (h : i < ls.length) : ls.drop i.toNat = rdl ls i :: ls.drop (i + 1).toNat := by
  have hl : i.toNat < ls.length := by omega
  have e : (i + 1).toNat = i.toNat + 1 := by omega
  rw [e, List.drop_eq_getElem_cons hl]
  simp [rdl, List.getD_eq_getElem?_getD, List.getElem?_eq_getElem hl]
theorem rdl_mem {ls : List (List Int)} {i : Int} (h0 : 0 ≤ i) (h : i < ls.length) : rdl ls i ∈ ls := by
  have hl : i.toNat < ls.length := by omega
  simp [rdl, List.getD_eq_getElem?_getD, List.getElem?_eq_getElem hl]
/-- Slices of numbers, as they lie in a world. -/
def SlW (k : IntKind) (w : World) (vals : List Value) (ls : List (List Int)) : Prop := vals.length = ls.length ∧ ∀ j : Nat, j < ls.length → ∃ (A : Option Addr) (c : Nat), vals[j]? = some (Value.slice A (ls.getD j []).length c) ∧ Rd w A (ls.getD j []).length c 1 (ints k (ls.getD j [])) ∧ (∀ x ∈ ls.getD j [], (Lit.int k x).wf = true) ∧ (ls.getD j []).length ≤ 140737488355327
theorem SlW.at {k : IntKind} {w : World} {vals : List Value} {ls : List (List Int)} (h : SlW k w vals ls) {i : Int} (h0 : 0 ≤ i) (h1 : i < ls.length) : ∃ (A : Option Addr) (c : Nat), vals[i.toNat]? = some (Value.slice A (rdl ls i).length c) ∧ Rd w A (rdl ls i).length c 1 (ints k (rdl ls i)) ∧ (∀ x ∈ rdl ls i, (Lit.int k x).wf = true) ∧ (rdl ls i).length ≤ 140737488355327 :=
  h.2 i.toNat (by omega)
theorem SlW.c {k : IntKind} {w w' : World} {R : List Row} {vals : List Value} {ls : List (List Int)} (h : SlW k w vals ls) (hw : Hp w.heap.size w w' R) : SlW k w' vals ls :=
  ⟨h.1, fun j hj => by
    obtain ⟨A, c, h1, h2, h3⟩ := h.2 j hj
    exact ⟨A, c, h1, h2.below hw.below, h3⟩⟩
theorem SlW.kept {k : IntKind} {w w' : World} {vals : List Value} {ls : List (List Int)} (h : SlW k w vals ls) (hk : ∀ b, b < w.heap.size → w'.heap[b]? = w.heap[b]?) : SlW k w' vals ls :=
  ⟨h.1, fun j hj => by
    obtain ⟨A, c, h1, h2, h3⟩ := h.2 j hj
    refine ⟨A, c, h1, ⟨h2.len, h2.max, h2.le, fun q v hq => ?_⟩, h3⟩
    obtain ⟨a, ha, hc⟩ := h2.at_ q v hq
    refine ⟨a, ha, ?_⟩
    have hb : (a.add q).block < w.heap.size := by
      unfold World.cell? at hc
      rcases Nat.lt_or_ge (a.add q).block w.heap.size with h' | h'
      · exact h'
      · rw [Array.getElem?_eq_none h'] at hc; cases hc
    exact (World.cell?_of_block (hk _ hb)).trans hc⟩
theorem slw_none (k : IntKind) (w : World) : SlW k w [] [] := ⟨rfl, fun j hj => by simp at hj⟩
theorem weightsAll_mem {H : Type} {P : Program} {t : TypeId} : ∀ {ds : List (DataW H)} {d : DataW H}, d ∈ ds → ∀ n ∈ d.weights P t, n ∈ DataW.weightsAll P t ds
  | [], _, h, _, _ => by cases h
  | d' :: ds, d, hd, n, hn => by
    simp only [DataW.weightsAll, List.mem_append]
    rcases List.mem_cons.1 hd with rfl | h
    · exact .inl hn
    · exact .inr (weightsAll_mem h n hn)
/-- How long a row among rows may be: what was read weighs no more than the form's reach. -/
theorem sized_row {H : Type} {P : Program} {ts : List TypeId} {ds : List (DataW H)} (h : (DataW.weightsEach P ts ds).all (· ≤ reachBytes) = true) {j : Nat} {t e q : TypeId} {k : IntKind} {len : Nat} {A : Nat → Option Addr} {L : Nat → Nat} {Z : Nat → List Int} {spare : List (DataW H)}
    (ht : ts[j]? = some t) (hd : ds[j]? = some (.slice ((List.range len).map fun r => Go.Deep.intRow k (A r) (L r) (Z r)) spare)) (hu : P.underlying t = some (.slice e)) (hu2 : P.underlying e = some (.slice q)) (hb : Nat.ble 1 (P.bytesOf q) = true) {r : Nat} (hr : r < len) (hL : L r ≤ (Z r).length) (hn : A r = none → (Z r).length = 0) : L r ≤ 140737488355327 := by
  cases hA : A r with
  | none => have := hn hA; omega
  | some a =>
    have hm : (DataW.slice (Go.ChangeShapes.lits k ((Z r).take (L r))) (Go.ChangeShapes.lits k ((Z r).drop (L r))) : DataW H) ∈ (List.range len).map fun r => Go.Deep.intRow k (A r) (L r) (Z r) := by
      refine List.mem_map.2 ⟨r, List.mem_range.2 hr, ?_⟩
      simp [Go.Deep.intRow, hA]
    have hw := of_decide_eq_true (List.all_eq_true.1 h _ (DataW.weights_mem_each ht hd (((Go.ChangeShapes.lits k ((Z r).take (L r)) : List (DataW H)).length + (Go.ChangeShapes.lits k ((Z r).drop (L r)) : List (DataW H)).length) * P.bytesOf q) (by
      simp only [DataW.weights, hu, List.mem_cons, List.mem_append]
      exact Or.inr (Or.inl (weightsAll_mem hm _ (by simp [DataW.weights, hu2]))))))
    have hb' := Nat.le_of_ble_eq_true hb
    have hr' := reachBytes_lt
    have hl : (Go.ChangeShapes.lits k ((Z r).take (L r)) : List (DataW H)).length = L r := by
      simp [Go.ChangeShapes.lits]
      omega
    rw [hl] at hw
    have : L r * 1 ≤ (L r + (Go.ChangeShapes.lits k ((Z r).drop (L r)) : List (DataW H)).length) * P.bytesOf q := Nat.mul_le_mul (by omega) hb'
    omega
theorem slw_open {k : IntKind} {W : World} {a : Addr} {base len cap : Nat} {A : Nat → Option Addr} {L C : Nat → Nat} {Z : Nat → List Int} (hl : len ≤ cap) (hm : cap ≤ maxLen)
    (h : ∀ r, r < cap → W.cell? (a.add r) = some (.slice (A r) (L r) (C r)) ∧ L r ≤ C r ∧ C r ≤ maxLen ∧ (Z r).length = C r ∧ (∀ n ∈ Z r, (Lit.int k n).wf = true) ∧ (A r = none → C r = 0) ∧ ∀ a', A r = some a' → base ≤ a'.block ∧ ∀ c, c < C r → W.cell? (a'.add c) = some (.int k ((Z r).getD c 0))) (hs : ∀ r, r < len → L r ≤ 140737488355327) :
    ∃ (vals : List Value) (ls : List (List Int)), len = ls.length ∧ Rd W (some a) ls.length cap 1 vals ∧ SlW k W vals ls := by
  unfold maxLen at hm
  refine ⟨(List.range len).map fun r => .slice (A r) (L r) (C r), (List.range len).map fun r => (Z r).take (L r), by simp, ⟨by simp, by simp; omega, by simpa using hl, fun j v hv => ⟨a, rfl, ?_⟩⟩, by simp, fun j hj => ?_⟩
  · rw [List.getElem?_map] at hv
    obtain ⟨r, hr, rfl⟩ := Option.map_eq_some_iff.1 hv
    obtain ⟨hlt, he⟩ := List.getElem?_eq_some_iff.1 hr
    rw [List.getElem_range] at he
    subst he
    rw [List.length_range] at hlt
    exact (h j (by omega)).1
  · simp only [List.length_map, List.length_range] at hj
    obtain ⟨h1, h2, h3, h4, h5, h6, h7⟩ := h j (by omega)
    have e : ((List.range len).map fun r => (Z r).take (L r)).getD j [] = (Z j).take (L j) := by
      simp [List.getD_eq_getElem?_getD, List.getElem?_range hj]
    have el : ((Z j).take (L j)).length = L j := by rw [List.length_take]; omega
    rw [e, el]
    unfold maxLen at h3
    refine ⟨A j, C j, ?_, ⟨by rw [ints_length, el]; omega, by omega, h2, fun q v hq => ?_⟩, fun x hx => h5 x (List.mem_of_mem_take hx), hs j hj⟩
    · rw [List.getElem?_map, List.getElem?_range hj]
      rfl
    · have hq1 : q < L j := by
        rcases Nat.lt_or_ge q (L j) with h | h
        · exact h
        · rw [List.getElem?_eq_none (by rw [ints_length, el]; omega)] at hq; cases hq
      cases hA : A j with
      | none => have := h6 hA; omega
      | some a' =>
        refine ⟨a', rfl, ?_⟩
        rw [(h7 a' hA).2 q (by omega)]
        have hqz : q < (Z j).length := by omega
        simp [ints, hq1, List.getElem?_eq_getElem hqz] at hq
        subst hq
        simp [List.getD_eq_getElem?_getD, List.getElem?_eq_getElem hqz]
section
variable {P : Program} {n : Nd} {B : Nat} {w0 : World} {L : Env} {R : List Row} {ty : TypeId}
/-- A function whose one result lies in a cell. -/
theorem fnC {f : FuncId} {fn : Func} {c : Code} {args : List Value} {R : List Row} {Post : Value → List Row → Prop} {p : Nat} {ty : TypeId} {d : TypeDesc} {sz : Nat} (hf : P.funcs[f]? = some fn) (hb : fn.body = some c) (hr : fn.results = #[.cell p ty]) (hl : Nat.ble args.length fn.ntmps = true)
    (hu : P.underlying ty = some d) (hd : (match d with | .struct _ | .array _ _ => true | _ => false) = true) (hi : (P.info? ty).map (·.size) = some sz)
    (h : W P fn.ntmps B w0 c ⟨fun L R' => ∃ (g i : Nat) (r : Row), lk L p = some (.pointer (some ⟨g, 0, none⟩)) ∧ R'[i]? = some r ∧ r.ro = false ∧ r.A = some ⟨g, 0, none⟩ ∧ r.n = 1 ∧ r.c = 1 ∧ r.sz = sz ∧ ∃ R1, (∀ w, Hp B w0 w R' → Hp B w0 w R1) ∧ Post (.agg r.xs.toArray) R1,
      fun L R' => ∃ (g i : Nat) (r : Row), lk L p = some (.pointer (some ⟨g, 0, none⟩)) ∧ R'[i]? = some r ∧ r.ro = false ∧ r.A = some ⟨g, 0, none⟩ ∧ r.n = 1 ∧ r.c = 1 ∧ r.sz = sz ∧ ∃ R1, (∀ w, Hp B w0 w R' → Hp B w0 w R1) ∧ Post (.agg r.xs.toArray) R1, fun _ _ _ => False⟩ (ini 0 args) R) : Ct P f args.toArray B w0 R Post := by
  intro w hw
  have hl' : args.length ≤ fn.ntmps := Nat.le_of_ble_eq_true hl
  have fin : ∀ (L' : Env) (R' : List Row) (a' : Act) (w' : World), Sat fn.ntmps L' a' → Hp B w0 w' R' → (∃ (g i : Nat) (r : Row), lk L' p = some (.pointer (some ⟨g, 0, none⟩)) ∧ R'[i]? = some r ∧ r.ro = false ∧ r.A = some ⟨g, 0, none⟩ ∧ r.n = 1 ∧ r.c = 1 ∧ r.sz = sz ∧ ∃ R1, (∀ w, Hp B w0 w R' → Hp B w0 w R1) ∧ Post (.agg r.xs.toArray) R1) →
      ∃ v R1, (results fn a'.tmps).run P w' = .ok v w' ∧ Hp B w0 w' R1 ∧ Post v R1 := by
    rintro L' R' a' w' hs' hp' ⟨g, i, r, h1, h2, h3, h4, h5, h6, h7, R1, h8, h9⟩
    have hown := Row.lies_w (hp'.own r (List.mem_of_getElem? h2)) h3
    rcases hown.2 with ⟨hn, _⟩ | ⟨g', cap, cur, hv, _, hg, _, _, hcs, ht⟩
    · rw [h4] at hn; cases hn
    · rw [h4] at hv
      simp only [Value.slice.injEq, Option.some.injEq, Addr.mk.injEq, and_true, true_and] at hv
      obtain ⟨rfl, rfl⟩ := hv
      rw [h5, h7, Nat.one_mul] at ht
      rw [h6, h7, Nat.one_mul] at hcs
      have e : cur = r.xs.toArray := by
        rw [← ht, List.take_of_length_le (by rw [Array.length_toList]; omega)]
      have hrun := results_cell_row (P := P) hr a'.tmps w' g r.e cur (0, 0) d (by have := hs'.getD h1; exact this) hg hu hd (by rw [hi, hcs])
      refine ⟨_, R1, hrun, h8 _ hp', ?_⟩
      rw [e]
      exact h9
  refine calls_of_wp hf hb (wp_mono (wpIn_wide.1 (h _ w ⟨by simp; omega, rfl, fun t v ht => ?_⟩ hw)) ?_)
  · obtain ⟨_, h2⟩ := lk_ini args 0 t v ht
    simp only [Nat.sub_zero] at h2
    have hlt := (List.getElem?_eq_some_iff.1 h2).1
    rw [← h2]
    simp [Array.getElem?_append, hlt]
  · intro e a' w' hq
    cases e with
    | normal =>
      obtain ⟨L', R', hs', hp', hx⟩ := hq
      obtain ⟨v, R1, hrun, hh, hpost⟩ := fin L' R' _ _ hs' hp' hx
      exact ⟨hs'.defers, v, hrun, v, R1, rfl, hh, hpost⟩
    | ret =>
      obtain ⟨L', R', hs', hp', hx⟩ := hq
      obtain ⟨v, R1, hrun, hh, hpost⟩ := fin L' R' _ _ hs' hp' hx
      exact ⟨hs'.defers, v, hrun, v, R1, rfl, hh, hpost⟩
    | exit id => obtain ⟨_, _, _, _, h⟩ := hq; exact h.elim
    | goto l => exact hq
    | panic ch => exact hq.elim
    | outgrown => exact hq.elim
/-- A whole value, stored over a whole row. -/
theorem a_storeAll {x y : Operand} {t e sz : Nat} {v : Value} {xs vs : List Value} {g : Nat} (i : Nat) (hi : R[i]? = some ⟨e, sz, some ⟨g, 0, none⟩, 1, 1, xs, false⟩) (hst : (P.info? t).map (·.size) = some sz) (hx : ev L x = some (.pointer (some ⟨g, 0, none⟩))) (hy : ev L y = some v) (hv : v.cells.toList = vs) (h1 : ∀ v ∈ vs, v.oneCell' = true) (hl : vs.length = sz) :
    Ac P n B w0 (.store t x y) ty L R (fun _ R' => R' = R.set i ⟨e, sz, some ⟨g, 0, none⟩, 1, 1, vs, false⟩) := by
  intro a w o K Q ho hty hs hp hk
  have hxl : xs.length = sz := by
    have := (Row.rd (hp.own _ (List.mem_of_getElem? hi))).len
    simpa using this
  have := a_storeN (P := P) (n := n) (B := B) (w0 := w0) (ty := ty) (j := 0) i hi rfl rfl (vs := vs) (by rw [hst, hl]) hx (by simp [pat, Addr.add]) hy hv h1 (by simp only; omega)
  simp only [List.take_zero, List.nil_append, Nat.zero_add, hl, ← hxl, List.drop_length, List.append_nil] at this
  rw [hxl] at this
  exact this a w o K Q ho hty hs hp hk
/-- A whole array of numbers, read out of the middle of a row. -/
theorem y_ldMid {x : Operand} {t : TypeId} {d : TypeDesc} {g j st : Nat} {vs : List Value} {r : Row} (q : Nat) (hq : R[q]? = some r) (hA : r.A = some ⟨g, 0, none⟩) (hu : P.underlying t = some d) (hd : aggB d = true) (hst : (P.info? t).map (·.size) = some st) (hx : ev L x = some (.pointer (some ⟨g, j, none⟩))) (hv : (r.xs.drop j).take st = vs) (hj : j + st ≤ r.xs.length) (hs0 : Nat.blt 0 st = true) :
    Yl P n B w0 (.load t x) ty L R (.agg vs.toArray) := by
  have hpp : (some ⟨g, j, none⟩ : Option Addr) = pat (some ⟨g, 0, none⟩) j := by
    simp only [pat, Option.map_some, addr0]
  have := y_ldA (P := P) (n := n) (B := B) (w0 := w0) (ty := ty) hu hd hst hx hpp (hA ▸ rdR q hq) hj (Nat.le_of_ble_eq_true hs0)
  rwa [hv] at this
/-- Two values alike. -/
theorem y_eqR {x y : Operand} {t u : TypeId} {p q : Value} {b : Bool} (h : ∀ w, (binOp .eql t p q).run P w = .ok (.bool b) w) (hg : ∀ w, (eqGuard .eql t x y p q).run P w = .ok () w) (hx : ev L x = some p) (hy : ev L y = some q) : Yl P n B w0 (.binOp .eql t x y u) ty L R (.bool b) := by
  intro a w o ho _ hs _
  simp [execOp, ho, hs.ev hx, hs.ev hy, h, hg]
end
end Go.Eng
