/-
  The engine's operations on memory. Own work.
-/
import Derived.Test.YtlagmdccneompaaE2
import Derived.Laws.MakeOwn
import Derived.Laws.OwnMore
import Derived.Laws.BytesArg
import Derived.Laws.Slices
namespace Go.Eng
open Go Go.RowKit
/-- The address j cells on. -/
def pat (A : Option Addr) (j : Nat) : Option Addr := A.map (·.add j)
theorem add_add (a : Addr) (i j : Nat) : (a.add i).add j = a.add (i + j) := by
  unfold Addr.add
  by_cases h1 : i = 0 <;> by_cases h2 : j = 0 <;> simp [h1, h2, Nat.add_assoc]
theorem pat_pat (A : Option Addr) (i j : Nat) : pat (pat A i) j = pat A (i + j) := by cases A <;> simp [pat, add_add]
theorem pat_zero (A : Option Addr) : pat A 0 = A := by cases A <;> simp [pat, Addr.add]
/-- A list read by an int. -/
def rd (l : List Int) (i : Int) : Int := l.getD i.toNat 0
def ints (k : IntKind) (l : List Int) : List Value := l.map (Value.int k)
theorem ints_length (k : IntKind) (l : List Int) : (ints k l).length = l.length := by simp [ints]
theorem ints_at {k : IntKind} {l : List Int} {i : Int} (h0 : 0 ≤ i) (h : i < l.length) : (ints k l)[i.toNat]? = some (.int k (rd l i)) := by
  have hl : i.toNat < l.length := by omega
  simp [ints, rd, List.getD_eq_getElem?_getD, List.getElem?_eq_getElem hl]
def aggB : TypeDesc → Bool
  | .struct _ => true
  | .array _ _ => true
  | _ => false
section
variable {P : Program} {n B : Nat} {w0 : World} {L : Env} {R : List Row} {ty : TypeId}
theorem run_isAgg {t : TypeId} {d : TypeDesc} (hu : P.underlying t = some d) (w : World) : (isAgg t).run P w = .ok (aggB d) w := by
  simp only [isAgg, Sem.run_bind, run_underlying hu, Result.andThen_ok]
  cases d <;> rfl
theorem Rd.cell {w : World} {A : Option Addr} {m c sz : Nat} {xs : List Value} (h : Rd w A m c sz xs) {j : Nat} {v : Value} (hv : xs[j]? = some v) : ∃ a, pat A j = some a ∧ w.cell? a = some v := by
  obtain ⟨a, rfl, hc⟩ := h.at_ j v hv
  exact ⟨_, rfl, hc⟩
/-! reading -/
theorem y_index {x ix : Operand} {t e : TypeId} {k : IntKind} {A : Option Addr} {m c sz : Nat} {i : Int} {xs : List Value} (ht : P.underlying t = some (.slice e)) (hi : (P.info? e).map (·.size) = some sz) (hx : ev L x = some (.slice A m c)) (hix : ev L ix = some (.int k i))
    (hr : RdC B w0 R A m c sz xs) (hsz : Nat.blt 0 sz = true) (h0 : 0 ≤ i) (h1 : i < m) : Yl P n B w0 (.indexAddr t x ix) ty L R (.pointer (pat A (i.toNat * sz))) := by
  intro a w o ho _ hs hp
  have hrd := hr w hp
  obtain ⟨i0, hi0, hsz0⟩ := Option.map_eq_some_iff.1 hi
  have hlt : i.toNat * sz < xs.length := by
    rw [hrd.len]
    exact Nat.mul_lt_mul_of_pos_right (by omega) (Nat.le_of_ble_eq_true hsz)
  obtain ⟨ad, rfl, _⟩ := hrd.at_ (i.toNat * sz) xs[i.toNat * sz] (by simp [hlt])
  simp [execOp, ho, Instr.indexAt, hs.ev hx, hs.ev hix, asIntOf, run_underlying ht, h0, h1, sizeOf, typeInfo, hi0, hsz0, pat]
theorem y_index1 {x ix : Operand} {t e : TypeId} {k : IntKind} {A : Option Addr} {m c : Nat} {i : Int} {xs : List Value} (ht : P.underlying t = some (.slice e)) (hi : (P.info? e).map (·.size) = some 1) (hx : ev L x = some (.slice A m c)) (hix : ev L ix = some (.int k i))
    (hr : RdC B w0 R A m c 1 xs) (h0 : 0 ≤ i) (h1 : i < m) : Yl P n B w0 (.indexAddr t x ix) ty L R (.pointer (pat A i.toNat)) := by
  have := y_index (n := n) (ty := ty) ht hi hx hix hr rfl h0 h1
  rwa [Nat.mul_one] at this
/-- An array's element (t the array's type). -/
theorem y_indexArr {x ix : Operand} {t e : TypeId} {k : IntKind} {p A : Option Addr} {m c sz sz' N j0 : Nat} {i : Int} {xs : List Value} (ht : P.underlying t = some (.array N e)) (hi : (P.info? e).map (·.size) = some sz) (hx : ev L x = some (.pointer p)) (hpp : p = pat A j0) (hix : ev L ix = some (.int k i))
    (hr : RdC B w0 R A m c sz' xs) (hlt : j0 < xs.length) (h0 : 0 ≤ i) (h1 : i < N) : Yl P n B w0 (.indexAddr t x ix) ty L R (.pointer (pat A (j0 + i.toNat * sz))) := by
  intro a w o ho _ hs hp
  have hrd := hr w hp
  obtain ⟨i0, hi0, hsz0⟩ := Option.map_eq_some_iff.1 hi
  obtain ⟨ad, rfl, _⟩ := hrd.at_ j0 xs[j0] (by simp [hlt])
  subst hpp
  simp [execOp, ho, Instr.indexAt, Instr.sureAddr, hs.ev hx, hs.ev hix, asIntOf, run_underlying ht, h0, h1, sizeOf, typeInfo, hi0, hsz0, pat, add_add]
theorem y_ld {x : Operand} {t : TypeId} {d : TypeDesc} {p A : Option Addr} {j m c sz : Nat} {xs : List Value} {v : Value} (hu : P.underlying t = some d) (hd : aggB d = false) (hx : ev L x = some (.pointer p)) (hp : p = pat A j) (hr : RdC B w0 R A m c sz xs) (hv : xs[j]? = some v) :
    Yl P n B w0 (.load t x) ty L R v := by
  intro a w o ho _ hs hw
  obtain ⟨ad, h1, h2⟩ := (hr w hw).cell hv
  subst hp
  simp [execOp, ho, Instr.loadAt, Instr.sureAddr, hs.ev hx, h1, loadVar, run_isAgg hu, hd, h2]
theorem y_ldI {x : Operand} {t : TypeId} {d : TypeDesc} {A : Option Addr} {m c : Nat} {k : IntKind} {l : List Int} {i : Int} (hu : P.underlying t = some d) (hd : aggB d = false) (hx : ev L x = some (.pointer (pat A i.toNat))) (hr : RdC B w0 R A m c 1 (ints k l)) (h0 : 0 ≤ i) (h1 : i < m) :
    Yl P n B w0 (.load t x) ty L R (.int k (rd l i)) := by
  intro a w o ho hty hs hw
  have hl := (hr w hw).len
  rw [ints_length] at hl
  exact y_ld hu hd hx rfl hr (ints_at h0 (by omega)) a w o ho hty hs hw
theorem y_ldA {x : Operand} {t : TypeId} {d : TypeDesc} {p A : Option Addr} {j m c sz st : Nat} {xs : List Value} (hu : P.underlying t = some d) (hd : aggB d = true) (hst : (P.info? t).map (·.size) = some st) (hx : ev L x = some (.pointer p)) (hp : p = pat A j) (hr : RdC B w0 R A m c sz xs) (hj : j + st ≤ xs.length) (hs0 : 0 < st) :
    Yl P n B w0 (.load t x) ty L R (.agg ((xs.drop j).take st).toArray) := by
  intro a w o ho _ hs hw
  have hrd := hr w hw
  obtain ⟨i0, hi0, hsz0⟩ := Option.map_eq_some_iff.1 hst
  obtain ⟨ad, rfl, _⟩ := hrd.at_ j xs[j] (by simp)
  subst hp
  have hc : (loadCells (ad.add j) st).run P w = .ok ((xs.drop j).take st).toArray w := by
    have := run_loadCells_list (P := P) w (ad.add j) ((xs.drop j).take st) (fun q v hq => by
      have hq' : xs[j + q]? = some v := by
        rw [List.getElem?_take] at hq
        split at hq
        · simpa using hq
        · cases hq
      obtain ⟨a', ha', hc⟩ := hrd.at_ _ _ hq'
      obtain rfl := Option.some.inj ha'
      rw [add_add]; exact hc)
    have hl : ((xs.drop j).take st).length = st := by simp; omega
    rwa [hl] at this
  simp [execOp, ho, Instr.loadAt, Instr.sureAddr, hs.ev hx, pat, loadVar, run_isAgg hu, hd, sizeOf, typeInfo, hi0, hsz0, hc]
theorem y_fieldAddr {x : Operand} {t : TypeId} {fs : Array Field} {f : Field} {k st : Nat} {a0 : Addr} (hu : P.underlying t = some (.struct fs)) (hf : fs[k]? = some f) (hst : (P.info? f.type).map (·.size) = some st) (hs0 : Nat.blt 0 st = true) (hx : ev L x = some (.pointer (some a0))) :
    Yl P n B w0 (.fieldAddr t x k) ty L R (.pointer (some (a0.add f.offset))) := by
  intro a w o ho _ hs _
  obtain ⟨i0, hi0, hsz0⟩ := Option.map_eq_some_iff.1 hst
  have : ¬ st = 0 := by have := Nat.le_of_ble_eq_true hs0; omega
  simp [execOp, ho, Instr.fieldAt, Instr.sureAddr, hs.ev hx, run_underlying hu, hf, fieldPlace, sizeOf, typeInfo, hi0, hsz0, this]
theorem y_nilCheck {x : Operand} {a0 : Addr} (hx : ev L x = some (.pointer (some a0))) : Yl P n B w0 (.nilCheck x) ty L R (.pointer (some a0)) := by
  intro a w o ho _ hs _
  simp [execOp, ho, hs.ev hx]
theorem y_extract {x : Operand} {i : Nat} {vs : Array Value} {v : Value} (hx : ev L x = some (.tuple vs)) (hv : vs[i]? = some v) : Yl P n B w0 (.extract x i) ty L R v := by
  intro a w o ho _ hs _
  simp [execOp, ho, hs.ev hx, Instr.extract, hv]
def evs (L : Env) : List Operand → Option (List Value)
  | [] => some []
  | x :: r => match ev L x, evs L r with
    | some v, some vs => some (v :: vs)
    | _, _ => none
theorem Sat.evs {a : Act} (hs : Sat n L a) : ∀ {xs : List Operand} {vs : List Value}, evs L xs = some vs → xs.map a.eval = vs
  | [], vs, h => by simpa [Eng.evs] using h
  | x :: r, vs, h => by
    unfold Eng.evs at h
    split at h
    · rename_i v us h1 h2
      obtain rfl := Option.some.inj h
      rw [List.map_cons, hs.ev h1, hs.evs h2]
    · cases h
theorem y_makeFunc {fn : Fn} {ps cs : List Operand} {vs us : List Value} (h1 : evs L ps = some vs) (h2 : evs L cs = some us) : Yl P n B w0 (.makeFunc fn ps.toArray cs.toArray) ty L R (.func fn vs.toArray us.toArray) := by
  intro a w o ho _ hs _
  have e1 := hs.evs h1
  have e2 := hs.evs h2
  simp [execOp, ho, Instr.makeFunc, e1, e2]
/-! cutting -/
def cutA (A : Option Addr) (l c sz : Nat) : Option Addr := if c = l then A else A.map (·.add (l * sz))
theorem rd_cut {w : World} {A : Option Addr} {m sz c l h : Nat} {xs : List Value} (hr : Rd w A m c sz xs) (h1 : l ≤ h) (h2 : h ≤ m) : Rd w (cutA A l c sz) (h - l) (c - l) sz ((xs.drop (l * sz)).take ((h - l) * sz)) := by
  have hc := hr.le
  have e1 : h * sz = l * sz + (h - l) * sz := by rw [← Nat.add_mul]; congr 1; omega
  have e2 : h * sz ≤ m * sz := Nat.mul_le_mul_right _ h2
  refine ⟨?_, by have := hr.max; omega, by omega, fun j v hv => ?_⟩
  · rw [List.length_take, List.length_drop, hr.len]; omega
  · rw [List.getElem?_take] at hv
    split at hv
    · rename_i hj
      have hv' : xs[l * sz + j]? = some v := by simpa using hv
      obtain ⟨a, rfl, hcell⟩ := hr.at_ _ _ hv'
      unfold cutA
      by_cases hcl : c = l
      · have : h = l := by omega
        subst this
        simp at hj
      · rw [if_neg hcl]
        exact ⟨_, rfl, by rw [add_add]; exact hcell⟩
    · cases hv
theorem RdC.cut {A : Option Addr} {m sz c l h : Nat} {xs : List Value} (hr : RdC B w0 R A m c sz xs) (h1 : l ≤ h) (h2 : h ≤ m) : RdC B w0 R (cutA A l c sz) (h - l) (c - l) sz ((xs.drop (l * sz)).take ((h - l) * sz)) :=
  fun w hw => rd_cut (hr w hw) h1 h2
theorem RdC.cutI {A : Option Addr} {m c l h : Nat} {k : IntKind} {xs : List Int} (hr : RdC B w0 R A m c 1 (ints k xs)) (h1 : l ≤ h) (h2 : h ≤ m) : RdC B w0 R (cutA A l c 1) (h - l) (c - l) 1 (ints k ((xs.drop l).take (h - l))) := by
  have := hr.cut h1 h2
  simpa [ints, List.map_take, List.map_drop] using this
theorem RdC.fromI {A : Option Addr} {m c l : Nat} {k : IntKind} {xs : List Int} (hr : RdC B w0 R A m c 1 (ints k xs)) (h1 : l ≤ m) : RdC B w0 R (cutA A l c 1) (m - l) (c - l) 1 (ints k (xs.drop l)) := by
  intro w hw
  have := hr.cutI h1 (Nat.le_refl m) w hw
  have hl := (hr w hw).len
  rw [ints_length] at hl
  rwa [List.take_of_length_le (by rw [List.length_drop]; omega)] at this
theorem RdC.to {A : Option Addr} {m c h sz : Nat} {xs : List Value} (hr : RdC B w0 R A m c sz xs) (h2 : h ≤ m) : RdC B w0 R A h c sz (xs.take (h * sz)) := by
  intro w hw
  have hrd := hr w hw
  have hl := hrd.len
  have hle : h * sz ≤ m * sz := Nat.mul_le_mul_right _ h2
  refine ⟨by rw [List.length_take]; omega, by have := hrd.max; omega, by have := hrd.le; omega, fun j v hv => ?_⟩
  refine hrd.at_ j v ?_
  rw [List.getElem?_take] at hv
  split at hv
  · exact hv
  · cases hv
theorem RdC.toI {A : Option Addr} {m h c : Nat} {k : IntKind} {xs : List Int} (hr : RdC B w0 R A m c 1 (ints k xs)) (h2 : h ≤ m) : RdC B w0 R A h c 1 (ints k (xs.take h)) := by
  have := hr.to h2
  simpa [ints, List.map_take] using this
theorem y_slice {x y z : Operand} {t e : TypeId} {A : Option Addr} {m c sz : Nat} {k1 k2 : IntKind} {l h : Int} (ht : P.underlying t = some (.slice e)) (hi : (P.info? e).map (·.size) = some sz) (hx : ev L x = some (.slice A m c)) (hy : ev L y = some (.int k1 l)) (hz : ev L z = some (.int k2 h)) {xs : List Value} (hr : RdC B w0 R A m c sz xs) (h0 : 0 ≤ l) (h1 : l ≤ h) (h2 : h ≤ m) :
    Yl P n B w0 (.slice t x (some y) (some z) none) ty L R (.slice (cutA A l.toNat c sz) (h.toNat - l.toNat) (c - l.toNat)) := by
  intro a w o ho _ hs hp
  have hle := (hr w hp).le
  obtain ⟨i0, hi0, hsz0⟩ := Option.map_eq_some_iff.1 hi
  have hel : P.elem t = e := by simp [Program.elem, ht]
  have ht' : P.underlying t = some (.slice (P.elem t)) := by rw [hel]; exact ht
  simp only [execOp, ho, Option.map_some, Option.map_none, hs.ev hx, hs.ev hy, hs.ev hz, Sem.run_bind, run_sliceAt_slice w t _ _ _ _ ht', run_slice_lh w t A m c ht' k1 k2 l h h0 h1 (by omega), hel]
  simp [sizeOf, typeInfo, hi0, hsz0, sliced, cutA]
theorem y_sliceFrom {x y : Operand} {t e : TypeId} {A : Option Addr} {m c sz : Nat} {k1 : IntKind} {l : Int} (ht : P.underlying t = some (.slice e)) (hi : (P.info? e).map (·.size) = some sz) (hx : ev L x = some (.slice A m c)) (hy : ev L y = some (.int k1 l)) (h0 : 0 ≤ l) (h1 : l ≤ m) :
    Yl P n B w0 (.slice t x (some y) none none) ty L R (.slice (cutA A l.toNat c sz) (m - l.toNat) (c - l.toNat)) := by
  intro a w o ho _ hs _
  obtain ⟨i0, hi0, hsz0⟩ := Option.map_eq_some_iff.1 hi
  have hel : P.elem t = e := by simp [Program.elem, ht]
  have ht' : P.underlying t = some (.slice (P.elem t)) := by rw [hel]; exact ht
  simp only [execOp, ho, Option.map_some, Option.map_none, hs.ev hx, hs.ev hy, Sem.run_bind, run_sliceAt_slice w t _ _ _ _ ht', run_slice_l w t A m c ht' k1 l h0 h1, hel]
  simp [sizeOf, typeInfo, hi0, hsz0, sliced, cutA]
theorem y_sliceTo {x z : Operand} {t e : TypeId} {A : Option Addr} {m c sz : Nat} {k2 : IntKind} {h : Int} (ht : P.underlying t = some (.slice e)) (hi : (P.info? e).map (·.size) = some sz) (hx : ev L x = some (.slice A m c)) (hz : ev L z = some (.int k2 h)) {xs : List Value} (hr : RdC B w0 R A m c sz xs) (h0 : 0 ≤ h) (h2 : h ≤ m) :
    Yl P n B w0 (.slice t x none (some z) none) ty L R (.slice A h.toNat c) := by
  intro a w o ho _ hs hp
  have hle := (hr w hp).le
  obtain ⟨i0, hi0, hsz0⟩ := Option.map_eq_some_iff.1 hi
  have hel : P.elem t = e := by simp [Program.elem, ht]
  have ht' : P.underlying t = some (.slice (P.elem t)) := by rw [hel]; exact ht
  simp only [execOp, ho, Option.map_some, Option.map_none, hs.ev hx, hs.ev hz, Sem.run_bind, run_sliceAt_slice w t _ _ _ _ ht', run_slice_h w t A m c ht' k2 h h0 (by omega), hel]
  have : (if c = 0 then A else Option.map (fun x => x.add 0) A) = A := by
    split
    · rfl
    · exact pat_zero A
  simp [sizeOf, typeInfo, hi0, hsz0, sliced, this]
/-! calls -/
def Enters (P : Program) (f : FuncId) : Prop := ∀ args w, (callFunc f args).run P w = .ok (.enter f args) w
theorem enters {f : FuncId} {fn : Func} (hf : P.funcs[f]? = some fn) (h1 : (fn.name == "runtime.NumGoroutine") = false) (h2 : fn.body.isNone = false) : Enters P f := by
  intro args w
  unfold callFunc
  simp only [program, Sem.run_bind, Sem.run, Result.andThen_ok, hf]
  simp [h1, h2]
theorem a_call {cal : Operand} {as : List Operand} {ts : Array TypeId} {f : FuncId} {ps cs : Array Value} {vs : List Value} {Post : Value → List Row → Prop} (he : Enters P f) (hf : ev L cal = some (.func (.func f) ps cs)) (ha : evs L as = some vs) (hc : Ct P f (ps ++ vs.toArray ++ cs) B w0 R Post) :
    Ac P n B w0 (.call { callee := .value cal, args := as.toArray, argTypes := ts }) ty L R Post := by
  intro a w o K Q ho _ hs hp hk
  have e1 := hs.evs ha
  unfold Oper.wp
  simp only [execOp, ho, resolve, hs.ev hf, Deferred.ofValue, invoke, Sem.run_bind, Sem.run_pure, Result.andThen_ok, List.map_toArray, e1, he (ps ++ vs.toArray ++ cs) w, Oper.upon]
  refine (hc w hp).mono ?_
  rintro e w' ⟨v, R', rfl, hp', hv⟩
  exact hk v w' R' hp' hv
theorem a_callF {f : FuncId} {as : List Operand} {ts : Array TypeId} {vs : List Value} {Post : Value → List Row → Prop} (he : Enters P f) (ha : evs L as = some vs) (hc : Ct P f vs.toArray B w0 R Post) :
    Ac P n B w0 (.call { callee := .value (.func f), args := as.toArray, argTypes := ts }) ty L R Post :=
  a_call (ps := #[]) (cs := #[]) he rfl ha (by simpa using hc)
end
end Go.Eng
