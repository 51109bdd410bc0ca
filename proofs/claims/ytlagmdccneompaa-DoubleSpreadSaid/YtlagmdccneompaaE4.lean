/-
  The engine's operations that turn memory: new rows, stores, appends. Own work.
-/
import Derived.Test.YtlagmdccneompaaE3
namespace Go.Eng
open Go Go.RowKit
section
variable {P : Program} {n B : Nat} {w0 : World} {L : Env} {R : List Row} {ty : TypeId}
theorem Row.lies_nil (B : Nat) (w : World) (e sz : Nat) : (Row.mk e sz none 0 0 [] false).lies B w := World.ownsRow_nil w B e sz
theorem Hp.nil {w : World} (h : Hp B w0 w R) (e sz : Nat) : Hp B w0 w (⟨e, sz, none, 0, 0, [], false⟩ :: R) :=
  ⟨h.below, h.base, fun r hr => by
    rcases List.mem_cons.1 hr with rfl | hr
    · exact Row.lies_nil B w e sz
    · exact h.own r hr, List.pairwise_cons.2 ⟨fun r _ a a' ha _ => (by cases ha), h.apart⟩, h.late⟩
theorem Hp.new {w : World} (h : Hp B w0 w R) (cs : Array Value) (e m sz : Nat) (hm : m ≤ maxLen) (hs : cs.size = m * sz) : Hp B w0 (w.alloc (.cells cs e)) (⟨e, sz, some ⟨w.heap.size, 0, none⟩, m, m, cs.toList, false⟩ :: R) := by
  refine h.join (Rn := [_]) ⟨(Below.refl _ _).alloc (Nat.le_refl _) _, by simp, fun r hr => ?_, List.pairwise_singleton _ _, Late.of (Nat.le_refl _)⟩
  obtain rfl := List.mem_singleton.1 hr
  exact World.ownsRow_lit w cs m (Nat.le_refl _) hm hs
theorem Row.apart_of {r r' : Row} (h : ∀ a, r.A = some a → ∀ a', r'.A = some a' → a.block ≠ a'.block) : r.apart r' := fun a a' h1 h2 => h a h1 a' h2
/-- One row is another one now; all else is as it was. -/
theorem Hp.upd {w w' : World} (h : Hp B w0 w R) {i : Nat} {r r' : Row} (hi : R[i]? = some r) {row : Option Nat} (hg : w.grownBy w' row) (hd : w.drawn ≤ w'.drawn) (hrow : ∀ k, row = some k → ∃ a, r.A = some a ∧ a.block = k) (hl : r'.lies B w')
    (hb : ∀ a', r'.A = some a' → (∃ a, r.A = some a ∧ a.block = a'.block) ∨ w.heap.size ≤ a'.block) : Hp B w0 w' (R.set i r') := by
  have hr : r ∈ R := List.mem_of_getElem? hi
  have hilt : i < R.length := (List.getElem?_eq_some_iff.1 hi).1
  have keep : ∀ (q : Row), q.lies B w → (∀ a, q.A = some a → ∀ a', r.A = some a' → a.block ≠ a'.block) → q.lies B w' := by
    intro q hq hne
    refine Row.lies_of_block hq fun a ha => ?_
    refine hg.block a.block (Row.lies_lt hq a ha).2 fun e => ?_
    obtain ⟨a', ha', hk⟩ := hrow _ e.symm
    exact hne a ha a' ha' hk.symm
  refine ⟨h.below.grown hg h.base (fun k hk => ?_), Nat.le_trans h.base hg.size, fun q hq => ?_, ?_, h.late.trans (Late.of hd)⟩
  · obtain ⟨a, ha, rfl⟩ := hrow k hk
    exact (Row.lies_lt (h.own r hr) a ha).1
  · obtain ⟨j, hj⟩ := List.mem_iff_getElem?.1 hq
    rw [List.getElem?_set] at hj
    by_cases hij : i = j
    · rw [if_pos hij] at hj
      rw [if_pos hilt] at hj
      obtain rfl := Option.some.inj hj
      exact hl
    · rw [if_neg hij] at hj
      refine keep q (h.own q (List.mem_of_getElem? hj)) ?_
      intro a ha a' ha'
      have hjl := (List.getElem?_eq_some_iff.1 hj).1
      have hjv := (List.getElem?_eq_some_iff.1 hj).2
      have hiv := (List.getElem?_eq_some_iff.1 hi).2
      rcases Nat.lt_or_gt_of_ne hij with hlt | hlt
      · have := List.pairwise_iff_getElem.1 h.apart i j hilt hjl hlt
        rw [hjv, hiv] at this
        exact Ne.symm (this a' a ha' ha)
      · have := List.pairwise_iff_getElem.1 h.apart j i hjl hilt hlt
        rw [hjv, hiv] at this
        exact this a a' ha ha'
  · have hap : ∀ j (hj : j < R.length), i ≠ j → r'.apart R[j] := by
      intro j hj hij a' aj ha' haj
      have hlj := Row.lies_lt (h.own R[j] (List.getElem_mem hj)) aj haj
      rcases hb a' ha' with ⟨a, ha, e⟩ | hge
      · have hiv := (List.getElem?_eq_some_iff.1 hi).2
        rw [← e]
        rcases Nat.lt_or_gt_of_ne hij with hlt | hlt
        · have := List.pairwise_iff_getElem.1 h.apart i j hilt hj hlt
          rw [hiv] at this
          exact this a aj ha haj
        · have := List.pairwise_iff_getElem.1 h.apart j i hj hilt hlt
          rw [hiv] at this
          exact Ne.symm (this aj a haj ha)
      · omega
    refine List.pairwise_iff_getElem.2 fun p q hp hq hpq => ?_
    simp only [List.length_set] at hp hq
    by_cases h1 : i = p
    · subst h1
      rw [List.getElem_set_self, List.getElem_set_ne (by omega)]
      exact hap q hq (by omega)
    · by_cases h2 : i = q
      · subst h2
        rw [List.getElem_set_self, List.getElem_set_ne h1]
        exact Row.apart_symm (hap p hp (by omega))
      · rw [List.getElem_set_ne h1, List.getElem_set_ne h2]
        exact List.pairwise_iff_getElem.1 h.apart p q hp hq hpq
theorem World.grownBy_refl' (w : World) (row : Option Nat) : w.grownBy w row := ⟨rfl, rfl, rfl, Nat.le_refl _, fun _ _ _ => rfl⟩
theorem Row.lies_w {w : World} {r : Row} (h : r.lies B w) (hro : r.ro = false) : w.ownsRow B r.e r.sz (.slice r.A r.n r.c) r.n r.xs := by
  unfold Row.lies at h
  simpa only [hro] using h

/-! new rows -/
theorem a_make {x y : Operand} {t e : TypeId} {z : Value} {bytes m : Nat} (ht : P.underlying t = some (.slice e)) (hinfo : (P.info? e).map (fun i => (i.zero, i.size, i.bytes)) = some (some z, 1, bytes)) (hz : z.cells = #[z])
    (hx : ev L x = some (.int .i64 (m : Int))) (hy : ev L y = some (.int .i64 (m : Int))) (hm : m * bytes ≤ 281474976710656) (hm' : m ≤ 9223372036854775807) :
    Ac P n B w0 (.makeSlice t x y) ty L R (fun v R' => ∃ g, v = .slice (some ⟨g, 0, none⟩) m m ∧ R' = ⟨e, 1, some ⟨g, 0, none⟩, m, m, List.replicate m z, false⟩ :: R) := by
  intro a w o K Q ho _ hs hp hk
  obtain ⟨i0, hi, hzz⟩ := Option.map_eq_some_iff.1 hinfo
  simp only [Prod.mk.injEq] at hzz
  obtain ⟨hz0, hz1, hz2⟩ := hzz
  have hb : (i0.bytes : Int) * (m : Int) ≤ 281474976710656 := by
    have h : ((m * bytes : Nat) : Int) ≤ 281474976710656 := by omega
    rw [hz2, Int.mul_comm]
    rwa [Int.natCast_mul] at h
  have hr := run_make (P := P) w t e i0 z ht hi hz0 .i64 .i64 m m (by omega) (Int.le_refl _) hb (by omega)
  simp only [Int.toNat_natCast, hz1, Nat.mul_one, hz] at hr
  unfold Oper.wp
  simp only [execOp, ho, hs.ev hx, hs.ev hy, Sem.run_bind, hr, Result.andThen_ok, Sem.run_pure, Oper.upon]
  have hh := hp.new (madeCells #[z] m) e m 1 (by unfold maxLen; omega) (by simp [size_madeCells])
  rw [toList_madeCells_one] at hh
  exact hk _ _ _ hh ⟨_, rfl, rfl⟩
/-- make at an int that is not negative. -/
theorem a_makeI {x y : Operand} {t e : TypeId} {z : Value} {bytes : Nat} {m : Int} (ht : P.underlying t = some (.slice e)) (hinfo : (P.info? e).map (fun i => (i.zero, i.size, i.bytes)) = some (some z, 1, bytes)) (hz : z.cells = #[z])
    (hx : ev L x = some (.int .i64 m)) (hy : ev L y = some (.int .i64 m)) (h0 : 0 ≤ m) (hm : m * bytes ≤ 281474976710656) (hm' : m ≤ 9223372036854775807) :
    Ac P n B w0 (.makeSlice t x y) ty L R (fun v R' => ∃ g, v = .slice (some ⟨g, 0, none⟩) m.toNat m.toNat ∧ R' = ⟨e, 1, some ⟨g, 0, none⟩, m.toNat, m.toNat, List.replicate m.toNat z, false⟩ :: R) := by
  obtain ⟨q, rfl⟩ := Int.eq_ofNat_of_zero_le h0
  have h : ((q * bytes : Nat) : Int) ≤ 281474976710656 := by rw [Int.natCast_mul]; exact hm
  have := a_make (P := P) (n := n) (B := B) (w0 := w0) (L := L) (R := R) (ty := ty) (m := q) ht hinfo hz hx hy (by omega) (by omega)
  simpa only [Int.toNat_natCast] using this
theorem a_alloc {e : TypeId} {z : Value} {sz : Nat} (hinfo : (P.info? e).map (·.zero) = some (some z)) (hz : z.cells.size = sz) : Ac P n B w0 (.alloc e) ty L R (fun v R' => ∃ g, v = .pointer (some ⟨g, 0, none⟩) ∧ R' = ⟨e, sz, some ⟨g, 0, none⟩, 1, 1, z.cells.toList, false⟩ :: R) := by
  intro a w o K Q ho _ hs hp hk
  obtain ⟨i0, hi, hz0⟩ := Option.map_eq_some_iff.1 hinfo
  have hh := hp.new z.cells e 1 sz (by unfold maxLen; omega) (by omega)
  unfold Oper.wp
  have hr : (Instr.alloc e true (.tuple #[])).run P w = .ok (.pointer (some ⟨w.heap.size, 0, none⟩)) (w.alloc (.cells z.cells e)) := by
    simp [Instr.alloc, zeroValue, typeInfo, hi, hz0, newVar, newRow]
  simp only [execOp, ho, Sem.run_bind, hr, Result.andThen_ok, Sem.run_pure, Oper.upon]
  exact hk _ _ _ hh ⟨_, rfl, rfl⟩
theorem a_box {e : TypeId} {x : Operand} {v : Value} {sz : Nat} (hx : ev L x = some v) (hz : v.cells.size = sz) : Ac P n B w0 (.box e x) ty L R (fun u R' => ∃ g, u = .pointer (some ⟨g, 0, none⟩) ∧ R' = ⟨e, sz, some ⟨g, 0, none⟩, 1, 1, v.cells.toList, false⟩ :: R) := by
  intro a w o K Q ho _ hs hp hk
  have hh := hp.new v.cells e 1 sz (by unfold maxLen; omega) (by omega)
  unfold Oper.wp
  have hr : (Instr.box e v).run P w = .ok (.pointer (some ⟨w.heap.size, 0, none⟩)) (w.alloc (.cells v.cells e)) := by
    simp [Instr.box, newVar, newRow]
  simp only [execOp, ho, hs.ev hx, Sem.run_bind, hr, Result.andThen_ok, Sem.run_pure, Oper.upon]
  exact hk _ _ _ hh ⟨_, rfl, rfl⟩
def evp (L : Env) : List (Nat × Operand) → Option (List (Nat × Value))
  | [] => some []
  | (i, x) :: r => match ev L x, evp L r with
    | some v, some vs => some ((i, v) :: vs)
    | _, _ => none
theorem Sat.evp {a : Act} (hs : Sat n L a) : ∀ {xs : List (Nat × Operand)} {vs : List (Nat × Value)}, evp L xs = some vs → xs.map (fun p => (p.1, a.eval p.2)) = vs
  | [], vs, h => by simpa [Eng.evp] using h
  | (i, x) :: r, vs, h => by
    unfold Eng.evp at h
    split at h
    · rename_i v us h1 h2
      obtain rfl := Option.some.inj h
      rw [List.map_cons, hs.ev h1, hs.evp h2]
    · cases h
theorem a_buildSlice {t e : TypeId} {z : Value} {sz len : Nat} {ps : List (Nat × Operand)} {vs : List (Nat × Value)} {cells : Array Value} (ht : P.underlying t = some (.slice e)) (hinfo : (P.info? e).map (fun i => (i.zero, i.size)) = some (some z, sz)) (hv : evp L ps = some vs)
    (hsmall : Nat.ble (len * sz) 16777216 = true) (hl : Nat.ble len 16777216 = true)
    (hfill : Instr.fill (fun i => some (i * sz, sz)) ((Array.range (len * sz)).map ((bif Nat.beq (len * sz) 0 then #[] else z.cells)[· % (bif Nat.beq (len * sz) 0 then #[] else z.cells).size]!)) vs = some cells) (hc : cells.size = len * sz) :
    Ac P n B w0 (.buildSlice t len ps.toArray) ty L R (fun v R' => ∃ g, v = .slice (some ⟨g, 0, none⟩) len len ∧ R' = ⟨e, sz, some ⟨g, 0, none⟩, len, len, cells.toList, false⟩ :: R) := by
  intro a w o K Q ho _ hs hp hk
  obtain ⟨i0, hi, hzz⟩ := Option.map_eq_some_iff.1 hinfo
  simp only [Prod.mk.injEq] at hzz
  obtain ⟨hz0, hz1⟩ := hzz
  have hsm := Nat.le_of_ble_eq_true hsmall
  have hlm := Nat.le_of_ble_eq_true hl
  have hev := hs.evp hv
  have hr : (Instr.buildSlice t len (ps.toArray.map fun p => (p.1, a.eval p.2))).run P w = .ok (.slice (some ⟨w.heap.size, 0, none⟩) len len) (w.alloc (.cells cells e)) := by
    have hns : ¬ (16777216 < len * sz) := by omega
    by_cases h0 : len * sz = 0
    · have e0 : ∀ f : Nat → Value, Array.map f (Array.range 0) = #[] := fun f => by simp [Array.range_zero']
      rw [h0, e0] at hfill
      simp [Instr.buildSlice, run_underlying ht, sizeOf, typeInfo, hi, hz1, h0, hev, newRow, hfill, e0]
    · have hb : Nat.beq (len * sz) 0 = false := by
        cases hb : Nat.beq (len * sz) 0 with
        | true => exact absurd (Nat.eq_of_beq_eq_true hb) h0
        | false => rfl
      simp only [hb, cond_false] at hfill
      simp [Instr.buildSlice, run_underlying ht, sizeOf, typeInfo, hi, hz1, h0, zeroValue, hz0, newRow, hev, hfill, hns]
  unfold Oper.wp
  simp only [execOp, ho, Sem.run_bind, hr, Result.andThen_ok, Sem.run_pure, Oper.upon]
  exact hk _ _ _ (hp.new cells e len sz (by unfold maxLen; omega) hc) ⟨_, rfl, rfl⟩
/-! stores -/
theorem take_seg (l vs : List Value) (j k : Nat) (h1 : j + vs.length ≤ k) (h2 : k ≤ l.length) : (l.take j ++ vs ++ l.drop (j + vs.length)).take k = (l.take k).take j ++ vs ++ (l.take k).drop (j + vs.length) := by
  apply List.ext_getElem?
  intro i
  simp only [List.getElem?_take, List.getElem?_append, List.length_append, List.length_take, List.getElem?_drop]
  have e1 : min j l.length = j := by omega
  have e2 : min j (min k l.length) = j := by omega
  rw [e1, e2]
  by_cases hi : i < k
  · by_cases hj : i < j
    · simp [hi, hj, show i < j + vs.length by omega]
    · by_cases hv : i < j + vs.length
      · simp [hi, hj, hv]
      · have : j + vs.length + (i - (j + vs.length)) = i := by omega
        simp [hi, hv, this]
  · have h4 : ¬ i < j + vs.length := by omega
    have : j + vs.length + (i - (j + vs.length)) = i := by omega
    simp [hi, h4, this]
theorem Row.lies_seg {w : World} {r : Row} (h : r.lies B w) (hro : r.ro = false) {g : Nat} (hA : r.A = some ⟨g, 0, none⟩) (j : Nat) (vs : List Value) (hj : j + vs.length ≤ r.xs.length) (h1 : ∀ v ∈ vs, v.oneCell' = true) {t : TypeId} {v : Value} (hv : v.cells.toList = vs) (hst : (P.info? t).map (·.size) = some vs.length) :
    ∃ w', (storeVar t ((⟨g, 0, none⟩ : Addr).add j) v).run P w = .ok () w' ∧ w.grownBy w' (some g) ∧ Row.lies B w' { r with xs := r.xs.take j ++ vs ++ r.xs.drop (j + vs.length) } := by
  have hw := Row.lies_w h hro
  rcases hw.2 with ⟨hn, _⟩ | ⟨g', cap, cur, hs, hb, hg, hnc, hcm, hcs, ht⟩
  · rw [hA] at hn; cases hn
  · rw [hA] at hs
    simp only [Value.slice.injEq, Option.some.injEq, Addr.mk.injEq, and_true, true_and] at hs
    obtain ⟨rfl, rfl⟩ := hs
    have hxl : r.xs.length = r.n * r.sz := hw.1
    have hle : r.n * r.sz ≤ cur.size := by rw [hcs]; exact Nat.mul_le_mul_right _ hnc
    have hadd : (⟨g, 0, none⟩ : Addr).add j = ⟨g, j, none⟩ := by unfold Addr.add; split <;> simp_all
    have hr := run_storeCells_at P g j r.e vs 0 cur w hg (by simp; omega) h1
    simp only [Nat.add_zero] at hr
    obtain ⟨i0, hi0, hsz0⟩ := Option.map_eq_some_iff.1 hst
    have hvl : v.cells.size = vs.length := by rw [← Array.length_toList, hv]
    refine ⟨w.setRow g (cur.toList.take j ++ vs ++ cur.toList.drop (j + vs.length)).toArray, ?_, ⟨rfl, rfl, rfl, by simp, fun k _ hk => setRow_other w g k _ (fun e => hk (by simp [e]))⟩, ?_⟩
    · rw [hadd]
      have hne : ¬ (v.cells.size ≠ vs.length) := by omega
      simp only [storeVar, Sem.run_bind, sizeOf, typeInfo, program, Sem.run, Result.andThen_ok, hi0, Sem.run_pure, hsz0, hne, if_false, hv]
      exact hr
    · unfold Row.lies
      simp only [hro]
      refine ⟨?_, .inr ⟨g, r.c, _, by rw [hA], hb, setRow_heap w g cur _ r.e _ hg, hnc, hcm, ?_, ?_⟩⟩
      · simp only [List.length_append, List.length_take, List.length_drop]; omega
      · simp only [List.size_toArray, List.length_append, List.length_take, List.length_drop, Array.length_toList]; omega
      · simp only
        rw [take_seg _ _ _ _ (by omega) (by rw [Array.length_toList]; omega), ht]
/-- Cells of a row of the call's own. -/
theorem a_storeN {x y : Operand} {t : TypeId} {p : Option Addr} {j : Nat} {r : Row} {v : Value} {vs : List Value} {g : Nat} (i : Nat) (hi : R[i]? = some r) (hro : r.ro = false) (hA : r.A = some ⟨g, 0, none⟩) (hst : (P.info? t).map (·.size) = some vs.length) (hx : ev L x = some (.pointer p)) (hp' : p = pat r.A j) (hy : ev L y = some v) (hv : v.cells.toList = vs) (h1 : ∀ v ∈ vs, v.oneCell' = true) (hj : j + vs.length ≤ r.xs.length) :
    Ac P n B w0 (.store t x y) ty L R (fun _ R' => R' = R.set i { r with xs := r.xs.take j ++ vs ++ r.xs.drop (j + vs.length) }) := by
  intro a w o K Q ho _ hs hp hk
  subst hp'
  obtain ⟨w', hr, hg, hl⟩ := Row.lies_seg (P := P) (hp.own r (List.mem_of_getElem? hi)) hro hA j vs hj h1 hv hst
  unfold Oper.wp
  simp only [execOp, ho, Instr.storeAt, hs.ev hx, hs.ev hy, pat, hA, Option.map_some, Instr.sureAddr, Sem.run_bind, Sem.run_pure, Result.andThen_ok, hr, Oper.upon]
  refine hk undef w' _ ?_ rfl
  refine hp.upd hi hg (run_late _ _ _ _ hr) (fun k hk => ?_) hl (fun a' ha' => .inl ⟨a', ha', rfl⟩)
  obtain rfl := Option.some.inj hk
  exact ⟨_, hA, rfl⟩
theorem set_seg (l : List Value) (j : Nat) (v : Value) (h : j < l.length) : l.take j ++ [v] ++ l.drop (j + 1) = l.set j v := by
  rw [List.set_eq_take_append_cons_drop, if_pos h]; simp
theorem a_store {x y : Operand} {t : TypeId} {p : Option Addr} {j : Nat} {r : Row} {v : Value} {g : Nat} (i : Nat) (hi : R[i]? = some r) (hro : r.ro = false) (hA : r.A = some ⟨g, 0, none⟩) (hst : (P.info? t).map (·.size) = some 1) (hx : ev L x = some (.pointer p)) (hp' : p = pat r.A j) (hy : ev L y = some v) (hv : v.cells.toList = [v]) (h1 : v.oneCell' = true) (hj : j < r.xs.length) :
    Ac P n B w0 (.store t x y) ty L R (fun _ R' => R' = R.set i { r with xs := r.xs.set j v }) := by
  have := a_storeN (P := P) (n := n) (B := B) (w0 := w0) (ty := ty) i hi hro hA (vs := [v]) hst hx hp' hy hv (by simpa using h1) (by rw [List.length_singleton]; omega)
  simpa only [List.length_singleton, set_seg _ _ _ hj] using this
/-! appends -/
/-- append(s, x...): s a row of the call's own (nil too), x any slice that reads. -/
theorem a_append {s x : Operand} {t : TypeId} {z : Value} {bytes m c2 : Nat} {A2 : Option Addr} {r : Row} {news : List Value} (i : Nat) (hi : R[i]? = some r) (hro : r.ro = false) (ht : P.underlying t = some (.slice r.e)) (hinfo : (P.info? r.e).map (fun i => (i.zero, i.size, i.bytes)) = some (some z, r.sz, bytes)) (hz : z.cells.size = r.sz) (hsz : Nat.blt 0 r.sz = true) (hb0 : Nat.blt 0 bytes = true)
    (hs : ev L s = some (.slice r.A r.n r.c)) (hx : ev L x = some (.slice A2 m c2)) (hrd : RdC B w0 R A2 m c2 r.sz news) (h1 : ∀ u ∈ news, u.oneCell' = true) (hbytes : (r.n + m) * bytes ≤ 140737488355328) :
    Ac P n B w0 (.call { callee := .builtin .append, args := #[s, x], argTypes := #[t, t] }) ty L R (fun v R' => ∃ A' c', v = .slice A' (r.n + m) c' ∧ R' = R.set i ⟨r.e, r.sz, A', r.n + m, c', r.xs ++ news, false⟩) := by
  intro a w o K Q ho _ hs' hp hk
  obtain ⟨i0, hi0, hzz⟩ := Option.map_eq_some_iff.1 hinfo
  simp only [Prod.mk.injEq] at hzz
  obtain ⟨hz0, hz1, hz2⟩ := hzz
  have hsz' := Nat.le_of_ble_eq_true hsz
  have hb0' := Nat.le_of_ble_eq_true hb0
  have hr := hp.own r (List.mem_of_getElem? hi)
  have hown := Row.lies_w hr hro
  have hread := hrd w hp
  have hlen : r.n + m ≤ 140737488355328 := Nat.le_trans (Nat.le_mul_of_pos_right _ hb0') hbytes
  have hrun : ∃ v' w', (Builtin.append_ #[t, t] o.type #[.slice r.A r.n r.c, .slice A2 m c2]).run P w = .ok v' w' ∧ w'.ownsRow B r.e r.sz v' (r.n + m) (r.xs ++ news) ∧ w.grownBy w' (Value.ownBlock (.slice r.A r.n r.c)) ∧ (v'.ownBlock = Value.ownBlock (.slice r.A r.n r.c) ∨ v'.ownBlock = some w.heap.size) := by
    rcases Nat.eq_zero_or_pos m with h0 | h0
    · subst h0
      have hn : news = [] := List.eq_nil_of_length_eq_zero (by rw [hread.len]; omega)
      subst hn
      rcases A2 with _ | ad
      · refine ⟨_, w, ?_, by simpa using hown, World.grownBy_refl' w _, .inl rfl⟩
        rcases hown.2 with ⟨hv, hn⟩ | ⟨g, cap, cur, hv, _, _, hnc, _⟩
        · rw [hv]
          simp [Builtin.append_, run_underlying ht, sizeOf, typeInfo, hi0, Builtin.lenOf, Builtin.firstCells]
        · rw [hv]
          simp [Builtin.append_, run_underlying ht, sizeOf, typeInfo, hi0, Builtin.lenOf, Builtin.firstCells, hnc, storeCells]
      · obtain ⟨v', w', h2, h3, h4, _, h5⟩ := run_append_own_at (P := P) w B t o.type r.e i0 z r.sz bytes ht hi0 hz0 hz1 hz2 hz hsz' _ r.n r.xs hown ad 0 c2 [] (by simp) (fun j u hu => by simp at hu) h1 (by unfold maxLen; omega) hbytes hp.base
        exact ⟨v', w', h2, h3, h4, h5⟩
    · have hne : 0 < news.length := by rw [hread.len]; exact Nat.mul_pos h0 hsz'
      obtain ⟨ad, rfl, _⟩ := hread.at_ 0 news[0] (by simp)
      obtain ⟨v', w', h2, h3, h4, _, h5⟩ := run_append_own_at (P := P) w B t o.type r.e i0 z r.sz bytes ht hi0 hz0 hz1 hz2 hz hsz' _ r.n r.xs hown ad m c2 news hread.len (fun j u hu => by
        obtain ⟨a', ha', hc⟩ := hread.at_ j u hu
        obtain rfl := Option.some.inj ha'
        exact hc) h1 (by unfold maxLen; omega) hbytes hp.base
      exact ⟨v', w', h2, h3, h4, h5⟩
  obtain ⟨v', w', h2, h3, h4, h5⟩ := hrun
  have hform : ∃ A' c', v' = .slice A' (r.n + m) c' := by
    rcases h3.2 with ⟨rfl, hn⟩ | ⟨g, cap, cur, rfl, _⟩
    · exact ⟨none, 0, by rw [hn]⟩
    · exact ⟨_, cap, rfl⟩
  obtain ⟨A', c', rfl⟩ := hform
  unfold Oper.wp execOp
  simp only [ho, resolve, invoke, builtin, Sem.run_bind, Sem.run_pure, Result.andThen_ok, List.map_toArray, List.map_cons, List.map_nil, hs'.ev hs, hs'.ev hx, h2, Oper.upon]
  refine hk _ w' _ ?_ ⟨A', c', rfl, rfl⟩
  refine hp.upd hi h4 (run_late _ _ _ _ h2) (fun k hk => ?_) ?_ (fun a' ha' => ?_)
  · cases hA : r.A with
    | none => rw [hA] at hk; simp [Value.ownBlock] at hk
    | some a1 => rw [hA] at hk; simp only [Value.ownBlock, Option.some.injEq] at hk; exact ⟨a1, rfl, hk⟩
  · exact h3
  · have ha2 : A' = some a' := ha'
    subst ha2
    rcases h5 with h5 | h5
    · cases hA : r.A with
      | none => rw [hA] at h5; simp [Value.ownBlock] at h5
      | some a1 => rw [hA] at h5; simp only [Value.ownBlock, Option.some.injEq] at h5; exact .inl ⟨a1, rfl, h5.symm⟩
    · simp only [Value.ownBlock, Option.some.injEq] at h5
      exact .inr (by omega)
end
end Go.Eng
