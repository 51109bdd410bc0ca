/-
  Engine: calls of the model's own entries; rows grown ahead. Own work.
-/
import Derived.Lib.BytesEntry
import Derived.Lib.AppendZeros
import Derived.Lib.MakeNoZero
import Derived.Laws.Externs
import Derived.Test.YtdfcnalkdlifiaaQ1
namespace Go.Eng
open Go Go.RowKit Go.Pure
section
variable {P : Program} {n : Nd} {B : Nat} {w0 : World} {L : Env} {R : List Row} {ty : TypeId}
/-- A call of a function without a body. -/
theorem a_entry {f : FuncId} {as : List Operand} {ts : Array TypeId} {vs : List Value} {Post : Value → List Row → Prop} (ha : evs L as = some vs)
    (hx : ∀ w, Hp B w0 w R → ∃ v w' R', (callFunc f vs.toArray).run P w = .ok (.value v) w' ∧ Hp B w0 w' R' ∧ Post v R') :
    Ac P n B w0 (.call { callee := .value (.func f), args := as.toArray, argTypes := ts }) ty L R Post := by
  intro a w o K Q ho _ hs hp hk
  have e1 := hs.evs ha
  obtain ⟨v, w', R', hr, hp', hv⟩ := hx w hp
  have hf : a.eval (.func f) = .func (.func f) #[] #[] := hs.ev rfl
  unfold Oper.wp
  simp only [execOp, ho, resolve, hf, Deferred.ofValue, invoke, Sem.run_bind, Sem.run_pure, Result.andThen_ok, List.map_toArray, e1, List.append_toArray, List.nil_append, List.append_nil, hr, Oper.upon]
  exact hk v w' R' hp' hv
theorem bytesOf_len (u : List Int) : (Lib.bytesOf u).length = u.length := by simp [Lib.bytesOf]
theorem cmp_bytes : ∀ {u t : List Int}, ByteL u → ByteL t → Lib.compareBytes (Lib.bytesOf u) (Lib.bytesOf t) = cmpL u t
  | [], [], _, _ => rfl
  | [], _ :: _, _, _ => rfl
  | _ :: _, [], _, _ => rfl
  | x :: u, y :: t, hu, ht => by
    have ih := cmp_bytes (u := u) (t := t) (fun z hz => hu z (List.mem_cons_of_mem _ hz)) fun z hz => ht z (List.mem_cons_of_mem _ hz)
    have hx := hu x (by simp)
    have hy := ht y (by simp)
    have e : ∀ z : Int, 0 ≤ z ∧ z < 256 → ((z.toNat.toUInt8).toNat : Int) = z := fun z hz => by
      rw [Nat.toUInt8, UInt8.toNat_ofNat_of_lt' (by simp [UInt8.size]; omega)]
      omega
    have hlt : ∀ {a b : Int}, 0 ≤ a ∧ a < 256 → 0 ≤ b ∧ b < 256 → (a.toNat.toUInt8 < b.toNat.toUInt8 ↔ a < b) := fun {a b} ha hb => by
      rw [UInt8.lt_iff_toNat_lt]
      have h1 := e a ha
      have h2 := e b hb
      omega
    show (if x.toNat.toUInt8 < y.toNat.toUInt8 then -1 else if y.toNat.toUInt8 < x.toNat.toUInt8 then 1 else Lib.compareBytes (Lib.bytesOf u) (Lib.bytesOf t)) = cmpL (x :: u) (y :: t)
    rw [cmpL, ih]
    by_cases c : x < y
    · rw [if_pos c, if_pos ((hlt hx hy).2 c)]
    · rw [if_neg c, if_neg (fun h => c ((hlt hx hy).1 h))]
      by_cases d : y < x
      · rw [if_pos d, if_pos ((hlt hy hx).2 d)]
      · rw [if_neg d, if_neg (fun h => d ((hlt hy hx).1 h))]
theorem run_bytesOf {w : World} {A : Option Addr} {m c : Nat} {u : List Int} (h : Rd w A m c 1 (ints .u8 u)) : (Extern.Bytes.bytesOf (.slice A m c)).run P w = .ok ⟨(Lib.bytesOf u).toArray⟩ w := by
  have hl := h.lenI
  rcases A with _ | a
  · have h0 : u = [] := by
      cases u with
      | nil => rfl
      | cons y l' => obtain ⟨_, g, _⟩ := h.at_ 0 (.int .u8 y) (by simp [ints]); cases g
    subst h0
    rfl
  · have := Lib.run_loadBytesX (P := P) w u a .empty fun j x hj => by
      obtain ⟨b, e, hc⟩ := h.at_ j (.int .u8 x) (by simp [ints, hj])
      obtain rfl := Option.some.inj e
      exact hc
    rw [← hl] at this
    show (Extern.Bytes.loadBytes a m .empty).run P w = _
    rw [this]
    simp
theorem run_cmp {w : World} {A A2 : Option Addr} {m c m2 c2 : Nat} {u t : List Int} (h : Rd w A m c 1 (ints .u8 u)) (h2 : Rd w A2 m2 c2 1 (ints .u8 t)) (hu : ByteL u) (ht : ByteL t) :
    (Extern.BytealgCompare.compare #[.slice A m c, .slice A2 m2 c2]).run P w = .ok (.int .i64 (cmpL u t)) w := by
  change Sem.run P (do pure (goInt (Extern.BytealgCompare.cmp (← Extern.Bytes.bytesOf (.slice A m c)) (← Extern.Bytes.bytesOf (.slice A2 m2 c2))))) w = _
  simp only [Sem.run_bind, run_bytesOf h, run_bytesOf h2, Result.andThen_ok, Sem.run_pure]
  rw [Lib.cmp_eq, cmp_bytes hu ht]
  rfl
/-- bytealg.Compare. -/
theorem a_cmp {f : FuncId} {fn : Func} {x y : Operand} {ts : Array TypeId} {A A2 : Option Addr} {m c m2 c2 : Nat} {u t : List Int} (hf : P.funcs[f]? = some fn) (hname : (fn.name == "runtime.NumGoroutine") = false) (hb : fn.body.isNone = true) (hn : Extern.findNext fn = none) (he : Extern.find fn = some Extern.BytealgCompare.compare)
    (hx : ev L x = some (.slice A m c)) (hy : ev L y = some (.slice A2 m2 c2)) (h : RdC B w0 R A m c 1 (ints .u8 u)) (h2 : RdC B w0 R A2 m2 c2 1 (ints .u8 t)) (hu : ByteL u) (ht : ByteL t) :
    Ac P n B w0 (.call { callee := .value (.func f), args := [x, y].toArray, argTypes := ts }) ty L R (fun v R' => v = .int .i64 (cmpL u t) ∧ R' = R) :=
  a_entry (vs := [.slice A m c, .slice A2 m2 c2]) (by simp [evs, hx, hy]) fun w hw => ⟨_, w, R, by
    rw [run_callFunc_extern hf hname hb hn he]
    rw [show [Value.slice A m c, Value.slice A2 m2 c2].toArray = #[.slice A m c, .slice A2 m2 c2] from rfl, run_cmp (h w hw) (h2 w hw) hu ht]
    rfl, hw, rfl, rfl⟩
theorem y_cap {x : Operand} {t e : TypeId} {A : Option Addr} {m c : Nat} (ht : P.underlying t = some (.slice e)) (hx : ev L x = some (.slice A m c)) : Yl P n B w0 (.call { callee := .builtin .cap, args := #[x], argTypes := #[t] }) ty L R (.int .i64 (c : Int)) := by
  intro a w o ho _ hs _
  simp [execOp, ho, resolve, invoke, builtin, Builtin.cap_, run_underlying ht, hs.ev hx, goInt]
theorem y_sliceZ {x z : Operand} {t e : TypeId} {A : Option Addr} {m c sz : Nat} {k2 : IntKind} (ht : P.underlying t = some (.slice e)) (hi : (P.info? e).map (·.size) = some sz) (hx : ev L x = some (.slice A m c)) (hz : ev L z = some (.int k2 0)) :
    Yl P n B w0 (.slice t x none (some z) none) ty L R (.slice A 0 c) := by
  intro a w o ho _ hs hp
  obtain ⟨i0, hi0, hsz0⟩ := Option.map_eq_some_iff.1 hi
  have hel : P.elem t = e := by simp [Program.elem, ht]
  have ht' : P.underlying t = some (.slice (P.elem t)) := by rw [hel]; exact ht
  simp only [execOp, ho, Option.map_some, Option.map_none, hs.ev hx, hs.ev hz, Sem.run_bind, run_sliceAt_slice w t _ _ _ _ ht', run_slice_h w t A m c ht' k2 0 (Int.le_refl 0) (by omega), hel]
  have : (if c = 0 then A else Option.map (fun x => x.add 0) A) = A := by
    split
    · rfl
    · exact pat_zero A
  simp [sizeOf, typeInfo, hi0, hsz0, sliced, this]
/-- Rows of this many cells as one of fewer. -/
theorem Row.lies_cut {w : World} {e sz m c : Nat} {A : Option Addr} {xs : List Value} (h : Row.lies B w ⟨e, sz, A, m, c, xs, false⟩) {k : Nat} (hk : k ≤ m) (hA : A ≠ none) : Row.lies B w ⟨e, sz, A, k, c, xs.take (k * sz), false⟩ := by
  have h1 := Row.lies_w h rfl
  have hle : k * sz ≤ m * sz := Nat.mul_le_mul_right _ hk
  unfold Row.lies
  simp only
  obtain ⟨hl, h2⟩ := h1
  simp only at hl h2
  refine ⟨by rw [List.length_take]; omega, ?_⟩
  rcases h2 with ⟨hv, _⟩ | ⟨g, cap, cur, hv, hb, hg, hnc, hcm, hcs, ht⟩
  · simp only [Value.slice.injEq] at hv
    exact absurd hv.1 hA
  · simp only [Value.slice.injEq] at hv
    obtain ⟨rfl, _, rfl⟩ := hv
    refine .inr ⟨g, c, cur, rfl, hb, hg, by omega, hcm, hcs, ?_⟩
    rw [← ht, List.take_take]
    congr 1
    omega
theorem Hp.cut {w : World} {e sz m c : Nat} {A : Option Addr} {xs : List Value} (h : Hp B w0 w (⟨e, sz, A, m, c, xs, false⟩ :: R)) {k : Nat} (hk : k ≤ m) (hA : A ≠ none) : Hp B w0 w (⟨e, sz, A, k, c, xs.take (k * sz), false⟩ :: R) :=
  ⟨h.below, h.base, fun r hr => by
    rcases List.mem_cons.1 hr with rfl | hr
    · exact Row.lies_cut (h.own _ (.head _)) hk hA
    · exact h.own r (.tail _ hr), by
    obtain ⟨h1, h2⟩ := List.pairwise_cons.1 h.apart
    exact List.pairwise_cons.2 ⟨fun r hr => h1 r hr, h2⟩, h.late⟩
/-- A new row, with room behind what it holds. -/
theorem Hp.newC {w : World} (h : Hp B w0 w R) (cs : Array Value) (e m : Nat) (hm : m ≤ cs.size) (hc : cs.size ≤ maxLen) : Hp B w0 (w.alloc (.cells cs e)) (⟨e, 1, some ⟨w.heap.size, 0, none⟩, m, cs.size, cs.toList.take m, false⟩ :: R) := by
  have h1 := h.new cs e cs.size 1 hc (by omega)
  have := h1.cut (k := m) hm (by simp)
  rwa [Nat.mul_one] at this
/-- append of so many noughts to nothing. -/
theorem a_zeros {x y : Operand} {t tn e : TypeId} {z : Value} {bytes : Nat} {kn : IntKind} {m : Nat} (ht : P.underlying t = some (.slice e)) (htn : P.underlying tn = some (.int kn)) (hinfo : (P.info? e).map (fun i => (i.zero, i.size, i.bytes)) = some (some z, 1, bytes)) (hz : z.cells = #[z])
    (hx : ev L x = some (.slice none 0 0)) (hy : ev L y = some (.int .i64 (m : Int))) (h0 : 0 < m) (hm : m ≤ 9223372036854775807) (hb : m * bytes ≤ 281474976710656) :
    Ac P n B w0 (.call { callee := .builtin .append, args := #[x, y], argTypes := #[t, tn] }) ty L R (fun v R' => ∃ g c, v = .slice (some ⟨g, 0, none⟩) m c ∧ R' = ⟨e, 1, some ⟨g, 0, none⟩, m, c, List.replicate m z, false⟩ :: R) := by
  intro a w o K Q ho _ hs hp hk
  obtain ⟨i0, hi, hzz⟩ := Option.map_eq_some_iff.1 hinfo
  simp only [Prod.mk.injEq] at hzz
  obtain ⟨hz0, hz1, hz2⟩ := hzz
  have hr := Lib.run_append_nil_zeros (P := P) w t tn o.type e i0 z .i64 kn ht htn hi hz0 m h0 (by omega) (by omega) (by rw [hz2]; exact hb)
  have hzc : ∀ q, (Builtin.zeroCells z.cells q).toList = List.replicate q z := fun q => by
    rw [hz]
    refine List.ext_getElem (by simp [Builtin.zeroCells]) fun i h1 h2 => ?_
    simp [Builtin.zeroCells, Nat.mod_one]
  unfold Oper.wp
  simp only [execOp, ho, resolve, invoke, builtin, Sem.run_bind, Sem.run_pure, Result.andThen_ok, List.map_toArray, List.map_cons, List.map_nil, hs.ev hx, hs.ev hy, hr, Oper.upon]
  have hge := grownCap_ge w m 0 e
  have hle := grownCap_le_maxLen w m 0 e (by unfold maxLen; omega)
  have hsz : (Builtin.zeroCells z.cells m ++ Builtin.zeroCells z.cells (grownCap w m 0 e - m)).size = grownCap w m 0 e := by
    rw [← Array.length_toList, Array.toList_append, List.length_append, hzc, hzc, List.length_replicate, List.length_replicate]; omega
  have hp2 := (hp.drawn (w.drawn + 1) (by omega)).newC (Builtin.zeroCells z.cells m ++ Builtin.zeroCells z.cells (grownCap w m 0 e - m)) e m (by rw [hsz]; exact hge) (by rw [hsz]; exact hle)
  rw [Array.toList_append, hzc, hzc, List.take_left' (by rw [List.length_replicate]), hsz] at hp2
  exact hk _ _ _ hp2 ⟨_, _, rfl, rfl⟩
end
end Go.Eng
