/-
  Engine: single cells of own rows, entries of the library, 32-digit numbers. Own work.
-/
import Derived.Test.YtdfcnalkdlifiaaE8
import Derived.Laws.LoneSync
namespace Go.Eng
open Go
section
variable {P : Program} {n : Nd} {B : Nat} {w0 : World} {L : Env} {R : List Row} {ty : TypeId}
theorem addr0 (g j : Nat) : (⟨g, 0, none⟩ : Addr).add j = ⟨g, j, none⟩ := by unfold Addr.add; split <;> simp_all
theorem Hp.cellAt {w : World} (h : Hp B w0 w R) (i : Nat) {r : Row} {g j : Nat} {v : Value} (hi : R[i]? = some r) (hA : r.A = some ⟨g, 0, none⟩) (hv : r.xs[j]? = some v) : w.cell? ⟨g, j, none⟩ = some v := by
  obtain ⟨a, ha, hc⟩ := (Row.rd (h.own r (List.mem_of_getElem? hi))).cell hv
  rw [hA] at ha
  simp only [pat, Option.map_some, Option.some.injEq] at ha
  rw [addr0] at ha
  rw [ha]
  exact hc
theorem Hp.openAt {w : World} (h : Hp B w0 w R) (i : Nat) {r : Row} {g : Nat} (j : Nat) (hi : R[i]? = some r) (hro : r.ro = false) (hA : r.A = some ⟨g, 0, none⟩) : w.frozen? ⟨g, j, none⟩ = false := by
  have hw := Row.lies_w (h.own r (List.mem_of_getElem? hi)) hro
  rcases hw.2 with ⟨hn, _⟩ | ⟨g', cap, cur, hs, hb, hg, _⟩
  · rw [hA] at hn; cases hn
  · rw [hA] at hs
    simp only [Value.slice.injEq, Option.some.injEq, Addr.mk.injEq, and_true, true_and] at hs
    obtain ⟨rfl, rfl⟩ := hs
    unfold World.frozen?
    simp [hg]
theorem take_set_lt {α : Type} (l : List α) (j k : Nat) (v : α) : (l.set j v).take k = (l.take k).set j v := by
  apply List.ext_getElem?
  intro i
  simp only [List.getElem?_take, List.getElem?_set, List.length_take]
  by_cases h1 : i < k
  · by_cases h2 : j = i
    · subst h2
      have e : (j < min k l.length) = (j < l.length) := by rw [eq_iff_iff]; omega
      simp [h1, e]
    · simp [h1, h2]
  · by_cases h2 : j = i
    · subst h2
      have e : ¬ j < min k l.length := by omega
      simp [h1, e]
    · simp [h1, h2]
theorem Hp.set1 {w : World} (h : Hp B w0 w R) (i : Nat) {r : Row} {g j : Nat} {v : Value} (hi : R[i]? = some r) (hro : r.ro = false) (hA : r.A = some ⟨g, 0, none⟩) : Hp B w0 (w.setCell ⟨g, j, none⟩ v) (R.set i { r with xs := r.xs.set j v }) := by
  have hw := Row.lies_w (h.own r (List.mem_of_getElem? hi)) hro
  rcases hw.2 with ⟨hn, _⟩ | ⟨g', cap, cur, hs, hb, hg, hnc, hcm, hcs, ht⟩
  · rw [hA] at hn; cases hn
  · rw [hA] at hs
    simp only [Value.slice.injEq, Option.some.injEq, Addr.mk.injEq, and_true, true_and] at hs
    obtain ⟨rfl, rfl⟩ := hs
    have hlt : g < w.heap.size := (Array.getElem?_eq_some_iff.1 hg).1
    have hv' : w.heap[g] = .cells cur r.e (0, 0) := (Array.getElem?_eq_some_iff.1 hg).2
    have hg2 : (w.setCell ⟨g, j, none⟩ v).heap[g]? = some (.cells (cur.setIfInBounds j v) r.e (0, 0)) := by
      simp [World.setCell, hlt, Array.getElem_modify, hv']
    refine h.upd hi (row := some g) ⟨rfl, rfl, rfl, by simp [World.setCell], fun k _ hk => ?_⟩ (Nat.le_refl _) (fun k hk => ?_) ?_ (fun a' ha' => .inl ⟨a', ha', rfl⟩)
    · have : ¬ g = k := fun e => hk (by simp [e])
      simp [World.setCell, Array.getElem?_modify, this]
    · obtain rfl := Option.some.inj hk
      exact ⟨_, hA, rfl⟩
    · unfold Row.lies
      simp only [hro]
      refine ⟨by simpa using hw.1, .inr ⟨g, r.c, _, by rw [hA], hb, hg2, hnc, hcm, by simpa using hcs, ?_⟩⟩
      rw [Array.toList_setIfInBounds, take_set_lt, ht]
/-- A call of an entry of the library that has no Go text. -/
theorem a_ext {f : FuncId} {as : List Operand} {ts : Array TypeId} {vs : List Value} {v : Value} {R1 : List Row} (ha : evs L as = some vs) (hc : ∀ w, Hp B w0 w R → ∃ w', (callFunc f vs.toArray).run P w = .ok (.value v) w' ∧ Hp B w0 w' R1) :
    Ac P n B w0 (.call { callee := .value (.func f), args := as.toArray, argTypes := ts }) ty L R (fun u R' => u = v ∧ R' = R1) := by
  intro a w o K Q ho _ hs hp hk
  have e1 := hs.evs ha
  obtain ⟨w', hr, hp'⟩ := hc w hp
  have hf : ev L (.func f) = some (.func (.func f) #[] #[]) := rfl
  unfold Oper.wp
  simp only [execOp, ho, resolve, hs.ev hf, Deferred.ofValue, invoke, Sem.run_bind, Sem.run_pure, Result.andThen_ok, List.map_toArray, e1, List.append_toArray, List.nil_append, List.append_nil, hr, Oper.upon]
  exact hk _ _ _ hp' ⟨rfl, rfl⟩
/-! 32 digits -/
end
def bv (x : BitVec 32) : Int := (x.toNat : Int)
theorem wrap_u32_nat (m : Nat) (h : m < 4294967296) : IntKind.u32.wrap (m : Int) = m := by
  rw [IntKind.wrap_u32]; omega
theorem ofInt_bv (x : BitVec 32) : BitVec.ofInt 32 (bv x) = x := by
  apply BitVec.eq_of_toNat_eq
  unfold bv
  have := x.isLt
  simp
theorem bv_inj {x y : BitVec 32} (h : bv x = bv y) : x = y := by
  have := congrArg (BitVec.ofInt 32) h
  rwa [ofInt_bv, ofInt_bv] at this
theorem bv_lt (x : BitVec 32) : 0 ≤ bv x ∧ bv x < 4294967296 := by
  have := x.isLt
  unfold bv
  omega
theorem wrap_bv (p : Int) : IntKind.u32.wrap p = bv (BitVec.ofInt 32 p) := by
  rw [IntKind.wrap_u32]
  unfold bv
  rw [BitVec.toNat_ofInt]
  omega
section
variable {P : Program} {n : Nd} {B : Nat} {w0 : World} {L : Env} {R : List Row} {ty : TypeId}
theorem run_and (p q : BitVec 32) (w : World) : (Op.intBits .and .u32 (bv p) (bv q)).run P w = .ok (.int .u32 (bv (p &&& q))) w := by
  show Result.ok (Value.int .u32 (IntKind.u32.wrap ((BitVec.ofInt 32 (bv p) &&& BitVec.ofInt 32 (bv q)).toNat : Int))) w = _
  rw [ofInt_bv, ofInt_bv, wrap_u32_nat _ (BitVec.isLt _)]
  rfl
theorem run_xor (p q : BitVec 32) (w : World) : (Op.intBits .xor .u32 (bv p) (bv q)).run P w = .ok (.int .u32 (bv (p ^^^ q))) w := by
  show Result.ok (Value.int .u32 (IntKind.u32.wrap ((BitVec.ofInt 32 (bv p) ^^^ BitVec.ofInt 32 (bv q)).toNat : Int))) w = _
  rw [ofInt_bv, ofInt_bv, wrap_u32_nat _ (BitVec.isLt _)]
  rfl
theorem run_xor8 (p q : Int) (w : World) : (Op.intBits .xor .u8 p q).run P w = .ok (.int .u8 ((BitVec.ofInt 8 p ^^^ BitVec.ofInt 8 q).toNat : Int)) w := by
  show Result.ok (Value.int .u8 (IntKind.u8.wrap ((BitVec.ofInt 8 p ^^^ BitVec.ofInt 8 q).toNat : Int))) w = _
  have e3 : IntKind.u8.wrap ((BitVec.ofInt 8 p ^^^ BitVec.ofInt 8 q).toNat : Int) = ((BitVec.ofInt 8 p ^^^ BitVec.ofInt 8 q).toNat : Int) := by
    rw [IntKind.wrap_u8]
    have := (BitVec.ofInt 8 p ^^^ BitVec.ofInt 8 q).isLt
    omega
  rw [e3]
theorem run_shr (p : BitVec 32) (j : IntKind) (k : Nat) (hk : k ≤ 32) (w : World) : (Op.shift .shr .u32 (bv p) j (k : Int)).run P w = .ok (.int .u32 (bv (p >>> k))) w := by
  have hn : ¬ ((k : Int) < 0) := by omega
  have hm : min (k : Int).toNat (IntKind.bits .u32) = k := by
    have : IntKind.bits .u32 = 32 := rfl
    omega
  have he : Int.fdiv (bv p) (2 ^ k) = bv (p >>> k) := by
    unfold bv
    rw [BitVec.toNat_ushiftRight, Nat.shiftRight_eq_div_pow, Int.fdiv_eq_ediv_of_nonneg _ (by exact Int.pow_nonneg (by omega))]
    simp
  unfold Op.shift
  rw [if_neg hn]
  simp only [hm, Sem.run_pure]
  rw [he]
theorem y_andB {x y : Operand} {t u : TypeId} {p q : BitVec 32} (hx : ev L x = some (.int .u32 (bv p))) (hy : ev L y = some (.int .u32 (bv q))) : Yl P n B w0 (.binOp .and t x y u) ty L R (.int .u32 (bv (p &&& q))) := by
  intro a w o ho _ hs _
  simp [execOp, ho, binOp, eqGuard, hs.ev hx, hs.ev hy, run_and]
theorem y_xorB {x y : Operand} {t u : TypeId} {p q : BitVec 32} (hx : ev L x = some (.int .u32 (bv p))) (hy : ev L y = some (.int .u32 (bv q))) : Yl P n B w0 (.binOp .xor t x y u) ty L R (.int .u32 (bv (p ^^^ q))) := by
  intro a w o ho _ hs _
  simp [execOp, ho, binOp, eqGuard, hs.ev hx, hs.ev hy, run_xor]
theorem y_shrB {x y : Operand} {t u : TypeId} {p : BitVec 32} {j : IntKind} {k : Nat} (hx : ev L x = some (.int .u32 (bv p))) (hy : ev L y = some (.int j (k : Int))) (hk : Nat.ble k 32 = true) : Yl P n B w0 (.binOp .shr t x y u) ty L R (.int .u32 (bv (p >>> k))) := by
  intro a w o ho _ hs _
  simp [execOp, ho, binOp, eqGuard, hs.ev hx, hs.ev hy, run_shr p j k (Nat.le_of_ble_eq_true hk)]
theorem y_notB {x : Operand} {t : TypeId} {p : BitVec 32} (hx : ev L x = some (.int .u32 (bv p))) : Yl P n B w0 (.unOp .xor t x) ty L R (.int .u32 (bv (4294967295#32 ^^^ p))) := by
  intro a w o ho _ hs _
  have e2 : (if IntKind.u32.signed = true then (-1 : Int) else IntKind.u32.max) = bv 4294967295#32 := rfl
  simp [execOp, ho, hs.ev hx, Op.unary, e2, run_xor]
theorem y_convB {x : Operand} {s d : TypeId} {j : IntKind} {p : Int} {td : TypeDesc} (hs' : P.underlying s = some td) (hd : P.underlying d = some (.int .u32)) (hx : ev L x = some (.int j p)) : Yl P n B w0 (.convert s d x) ty L R (.int .u32 (bv (BitVec.ofInt 32 p))) := by
  have := y_conv (P := P) (n := n) (B := B) (w0 := w0) (R := R) (ty := ty) hs' hd hx
  rwa [wrap_bv] at this
theorem y_eqU {x y : Operand} {t u : TypeId} {p q : BitVec 32} (hx : ev L x = some (.int .u32 (bv p))) (hy : ev L y = some (.int .u32 (bv q))) : Yl P n B w0 (.binOp .eql t x y u) ty L R (.bool (decide (p = q))) := by
  have := y_eq (P := P) (n := n) (B := B) (w0 := w0) (R := R) (ty := ty) (t := t) (u := u) hx hy
  have e : (decide (bv p = bv q)) = decide (p = q) := by
    rw [decide_eq_decide]
    exact ⟨bv_inj, fun h => by rw [h]⟩
  rwa [e] at this
theorem y_neU {x y : Operand} {t u : TypeId} {p q : BitVec 32} (hx : ev L x = some (.int .u32 (bv p))) (hy : ev L y = some (.int .u32 (bv q))) : Yl P n B w0 (.binOp .neq t x y u) ty L R (.bool (decide (p ≠ q))) := by
  have := y_ne (P := P) (n := n) (B := B) (w0 := w0) (R := R) (ty := ty) (t := t) (u := u) hx hy
  have e : (decide (bv p ≠ bv q)) = decide (p ≠ q) := by
    rw [decide_eq_decide]
    exact ⟨fun h e => h (by rw [e]), fun h e => h (bv_inj e)⟩
  rwa [e] at this
/-- Byte of a number of 32 digits. -/
theorem y_xor8 {x y : Operand} {t u : TypeId} {p q : Int} (hx : ev L x = some (.int .u8 p)) (hy : ev L y = some (.int .u8 q)) : Yl P n B w0 (.binOp .xor t x y u) ty L R (.int .u8 ((BitVec.ofInt 8 p ^^^ BitVec.ofInt 8 q).toNat : Int)) := by
  intro a w o ho _ hs _
  simp only [execOp, ho, binOp, eqGuard, hs.ev hx, hs.ev hy]
  simp [run_xor8]
theorem run_andM (p : Int) (m : Nat) (hm : m < 9223372036854775808) (w : World) : (Op.intBits .and .i64 p (m : Int)).run P w = .ok (.int .i64 ((BitVec.ofInt 64 p &&& BitVec.ofNat 64 m).toNat : Int)) w := by
  show Result.ok (Value.int .i64 (IntKind.i64.wrap ((BitVec.ofInt 64 p &&& BitVec.ofInt 64 (m : Int)).toNat : Int))) w = _
  have e : BitVec.ofInt 64 (m : Int) = BitVec.ofNat 64 m := rfl
  have hle : (BitVec.ofInt 64 p &&& BitVec.ofNat 64 m).toNat ≤ m := by
    rw [BitVec.toNat_and, BitVec.toNat_ofNat, Nat.mod_eq_of_lt (by omega)]
    exact Nat.and_le_right
  rw [e, wrap_id (by omega)]
theorem y_andM {x y : Operand} {t u : TypeId} {p : Int} {m : Nat} (hx : ev L x = some (.int .i64 p)) (hy : ev L y = some (.int .i64 (m : Int))) (hm : Nat.blt m 9223372036854775808 = true := by rfl) : Yl P n B w0 (.binOp .and t x y u) ty L R (.int .i64 ((BitVec.ofInt 64 p &&& BitVec.ofNat 64 m).toNat : Int)) := by
  intro a w o ho _ hs _
  simp [execOp, ho, binOp, eqGuard, hs.ev hx, hs.ev hy, run_andM p m (Nat.lt_of_lt_of_le (Nat.lt_succ_self m) (Nat.le_of_ble_eq_true hm))]
theorem run_ptrNilIn (k : Nat) (t d : TypeId) (p : Option Addr) (ht : P.underlying t = some (.pointer d)) (w : World) : (Op.equalIn (k + 1) t (.pointer p) (.pointer none)).run P w = .ok p.isNone w := by
  cases p <;> simp [Op.equalIn, run_underlying ht, samePointer]
theorem run_ptrNil (t d : TypeId) (p : Option Addr) (ht : P.underlying t = some (.pointer d)) (w : World) : (Op.equal t (.pointer p) (.pointer none)).run P w = .ok p.isNone w := by
  exact run_ptrNilIn 9999 t d p ht w
/-- A field of a struct in a row of the call's own. -/
theorem y_fieldAt {x : Operand} {t tf : TypeId} {fs : Array Field} {k st g j off m : Nat} (hu : P.underlying t = some (.struct fs)) (hf : (fs[k]?).map (fun f => (f.offset, f.type)) = some (off, tf)) (hst : (P.info? tf).map (·.size) = some st) (hs0 : Nat.blt 0 st = true) (hx : ev L x = some (.pointer (some ⟨g, j, none⟩))) (hm : j + off = m) :
    Yl P n B w0 (.fieldAddr t x k) ty L R (.pointer (some ⟨g, m, none⟩)) := by
  obtain ⟨f, hf', he⟩ := Option.map_eq_some_iff.1 hf
  simp only [Prod.mk.injEq] at he
  obtain ⟨rfl, rfl⟩ := he
  have := y_fieldAddr (P := P) (n := n) (B := B) (w0 := w0) (R := R) (ty := ty) hu hf' hst hs0 hx
  have e : (⟨g, j, none⟩ : Addr).add f.offset = ⟨g, m, none⟩ := by
    rw [← hm]
    unfold Addr.add
    split <;> simp_all
  rwa [e] at this
theorem y_indexAt {x ix : Operand} {t e : TypeId} {k : IntKind} {g m N : Nat} {i : Int} {r : Row} (q : Nat) (hq : R[q]? = some r) (hA : r.A = some ⟨g, 0, none⟩) (ht : P.underlying t = some (.array N e)) (hi : (P.info? e).map (·.size) = some 1) (hx : ev L x = some (.pointer (some ⟨g, m, none⟩))) (hix : ev L ix = some (.int k i)) (hlt : m < r.xs.length) (h0 : 0 ≤ i) (h1 : i < N) :
    Yl P n B w0 (.indexAddr t x ix) ty L R (.pointer (some ⟨g, m + i.toNat, none⟩)) := by
  have hpp : (some ⟨g, m, none⟩ : Option Addr) = pat (some ⟨g, 0, none⟩) m := by
    simp only [pat, Option.map_some, addr0]
  have := y_indexArr (P := P) (n := n) (B := B) (w0 := w0) (ty := ty) ht hi hx hpp hix (hA ▸ rdR q hq) hlt h0 h1
  rw [Nat.mul_one] at this
  simpa only [pat, Option.map_some, addr0] using this
theorem y_ldAt {x : Operand} {t : TypeId} {d : TypeDesc} {g j : Nat} {v : Value} {r : Row} (q : Nat) (hq : R[q]? = some r) (hA : r.A = some ⟨g, 0, none⟩) (hu : P.underlying t = some d) (hd : aggB d = false) (hx : ev L x = some (.pointer (some ⟨g, j, none⟩))) (hv : r.xs[j]? = some v) :
    Yl P n B w0 (.load t x) ty L R v := by
  have hpp : (some ⟨g, j, none⟩ : Option Addr) = pat (some ⟨g, 0, none⟩) j := by
    simp only [pat, Option.map_some, addr0]
  exact y_ld hu hd hx hpp (hA ▸ rdR q hq) hv
theorem a_storeAt {x y : Operand} {t : TypeId} {j : Nat} {r : Row} {v : Value} {g : Nat} (q : Nat) (hq : R[q]? = some r) (hro : r.ro = false) (hA : r.A = some ⟨g, 0, none⟩) (hst : (P.info? t).map (·.size) = some 1) (hx : ev L x = some (.pointer (some ⟨g, j, none⟩))) (hy : ev L y = some v) (hv : v.cells.toList = [v]) (h1 : v.oneCell' = true) (hj : j < r.xs.length) :
    Ac P n B w0 (.store t x y) ty L R (fun _ R' => R' = R.set q { r with xs := r.xs.set j v }) :=
  a_store q hq hro hA hst hx (by simp only [pat, hA, Option.map_some, addr0]) hy hv h1 hj
theorem y_build0 {t : TypeId} {v : Value} (h : ∀ w, (Instr.build t #[]).run P w = .ok v w) : Yl P n B w0 (.build t #[]) ty L R v := by
  intro a w o ho _ hs _
  simp [execOp, ho, h]
theorem perm_set {r0 r1 : Row} : ∀ {R : List Row} {i : Nat}, R[i]? = some r0 → (r1 :: R.eraseIdx i).Perm (R.set i r1)
  | [], i, h => by simp at h
  | q :: R, 0, _ => .refl _
  | q :: R, i + 1, h => by
    have ih : (r1 :: R.eraseIdx i).Perm (R.set i r1) := perm_set (by simpa using h)
    exact (List.Perm.swap q r1 _).trans (ih.cons q)
/-- A contract over one row, at a row of many. -/
theorem Ct.at {f : FuncId} {args : Array Value} {r0 r1 : Row} {V : Value} (i : Nat) (hi : R[i]? = some r0) (h : Ct P f args B w0 (r0 :: R.eraseIdx i) (fun v R' => v = V ∧ R' = r1 :: R.eraseIdx i)) : Ct P f args B w0 R (fun v R' => v = V ∧ R' = R.set i r1) := by
  intro w hw
  have hw' : Hp B w0 w (r0 :: R.eraseIdx i) := by
    have hp := perm_set (r1 := r0) hi
    have hlt : i < R.length := (List.getElem?_eq_some_iff.1 hi).1
    have e : R.set i r0 = R := by
      rw [← (List.getElem?_eq_some_iff.1 hi).2]
      exact List.set_getElem_self hlt
    rw [e] at hp
    exact hw.perm hp.symm
  refine (h w hw').mono ?_
  rintro e w' ⟨v, R', rfl, hh, rfl, rfl⟩
  exact ⟨_, _, rfl, hh.perm (perm_set hi), rfl, rfl⟩
theorem y_ptrEq {x y : Operand} {t u d : TypeId} {p : Option Addr} (ht : P.underlying t = some (.pointer d)) (hx : ev L x = some (.pointer p)) (hy : ev L y = some (.pointer none)) : Yl P n B w0 (.binOp .eql t x y u) ty L R (.bool p.isNone) := by
  intro a w o ho _ hs _
  simp [execOp, ho, binOp, eqGuard, hs.ev hx, hs.ev hy, run_ptrNil t d p ht]
theorem y_ptrNe {x y : Operand} {t u d : TypeId} {p : Option Addr} (ht : P.underlying t = some (.pointer d)) (hx : ev L x = some (.pointer p)) (hy : ev L y = some (.pointer none)) : Yl P n B w0 (.binOp .neq t x y u) ty L R (.bool (!p.isNone)) := by
  intro a w o ho _ hs _
  simp [execOp, ho, binOp, eqGuard, hs.ev hx, hs.ev hy, run_ptrNil t d p ht]
end
end Go.Eng
