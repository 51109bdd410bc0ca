/-
  Engine: new bytes of whatever contents; slices of three places; a row that is read only from now on. Own work.
-/
import Derived.Lib.MakeNoZero
import Derived.Test.YtdfcnalkdlifiaaE25
import Derived.Test.YtdfcnalkdlifiaaE22
import Derived.Test.YtdfcnalkdlifiaaQ3
import Derived.Test.YtdfcnalkdlifiaaQ15
namespace Go.Eng
open Go Go.RowKit Go.Pure
section
variable {P : Program} {n : Nd} {B : Nat} {w0 : World} {L : Env} {R : List Row} {ty : TypeId}
/-- bytealg.MakeNoZero: a row of nothing yet, with room. -/
theorem a_noZero {f : FuncId} {fn : Func} {x : Operand} {ts : Array TypeId} {m : Nat} {ps : Array TypeId} {t e : TypeId} (hf : P.funcs[f]? = some fn) (hname : (fn.name == "runtime.NumGoroutine") = false) (hb : fn.body.isNone = true) (hn : Extern.findNext fn = none) (he : Extern.find fn = some (Extern.BytealgMakeNoZero.makeNoZero ps #[t]))
    (ht : P.underlying t = some (.slice e)) (hx : ev L x = some (.int .i64 (m : Int))) (hm : m ≤ 1000000) :
    Ac P n B w0 (.call { callee := .value (.func f), args := [x].toArray, argTypes := ts }) ty L R (fun v R' => ∃ g C, m ≤ C ∧ v = .slice (some ⟨g, 0, none⟩) m C ∧ R' = ⟨e, 1, some ⟨g, 0, none⟩, 0, C, ints .u8 [], false⟩ :: R) :=
  a_entry (vs := [.int .i64 (m : Int)]) (by simp [evs, hx]) fun w hw => by
    obtain ⟨cs, hr, hge, hle⟩ := Lib.run_makeNoZero (P := P) w ps t e ht m (by omega)
    have hp2 := ((hw.drawn (w.drawn + 1 + 1) (by omega)).newC cs e m hge (hle (by unfold maxLen; omega))).cut (k := 0) (Nat.zero_le _) (by simp)
    refine ⟨_, _, _, ?_, hp2, w.heap.size, cs.size, hge, rfl, by simp [ints]⟩
    rw [run_callFunc_extern hf hname hb hn he]
    rw [show [Value.int .i64 (m : Int)].toArray = #[.int .i64 m] from rfl, hr]
    rfl
/-- copy behind a row's end, into its room. -/
theorem a_copyEnd {x y : Operand} {t t2 e : TypeId} {pp : Option Addr} {g p dl dc c m2 c2 : Nat} {A2 : Option Addr} {k : IntKind} {D src : List Int} (i : Nat) (hi : R[i]? = some ⟨e, 1, some ⟨g, 0, none⟩, p, c, ints k D, false⟩) (ht : P.underlying t = some (.slice e)) (hst : (P.info? e).map (·.size) = some 1)
    (hx : ev L x = some (.slice pp dl dc)) (hy : ev L y = some (.slice A2 m2 c2)) (hpp : pp = some ⟨g, p, none⟩) (hdl : p + dl ≤ c) (hrd : RdC B w0 R A2 m2 c2 1 (ints k src)) :
    Ac P n B w0 (.call { callee := .builtin .copy, args := #[x, y], argTypes := #[t, t2] }) ty L R (fun v R' => v = .int .i64 ((min m2 dl : Nat) : Int) ∧ R' = R.set i ⟨e, 1, some ⟨g, 0, none⟩, p + min m2 dl, c, ints k (D ++ src.take (min m2 dl)), false⟩) := by
  intro a w o K Q ho hty hs hw hk
  have hown := Row.lies_w (hw.own _ (List.mem_of_getElem? hi)) rfl
  have hr2 := hrd w hw
  have hm2 : m2 = src.length := hr2.lenI
  have hl : p = D.length := by have := hown.1; rw [ints_length] at this; simp only at this; omega
  rcases hown.2 with ⟨hv, _⟩ | ⟨g', cap, cur, hv, hb, hg, hnc, hcm, hcs, htk⟩
  · simp at hv
  simp only [Value.slice.injEq, Option.some.injEq, Addr.mk.injEq, and_true, true_and] at hv
  obtain ⟨rfl, rfl⟩ := hv
  simp only at htk hcs hnc hg hb
  rw [Nat.mul_one] at htk hcs
  subst hpp
  obtain ⟨q, hq⟩ : ∃ q, min m2 dl = q := ⟨_, rfl⟩
  rw [hq] at hk
  have hq' : Nat.min m2 dl = q := hq
  have hcl : (ints k (src.take q)).length = q := by rw [ints_length, List.length_take]; omega
  rcases Nat.eq_zero_or_pos m2 with hz | hpos
  · have hq0 : q = 0 := by omega
    have hrun := run_copy_none (P := P) w t t2 o.type e (some ⟨g, p, none⟩) A2 dl dc m2 c2 ht hst (by rw [hz]; exact Nat.zero_min _)
    unfold Oper.wp execOp
    simp only [ho, resolve, invoke, builtin, Sem.run_bind, Sem.run_pure, Result.andThen_ok, List.map_toArray, List.map_cons, List.map_nil, hs.ev hx, hs.ev hy, hrun, Oper.upon]
    refine hk (.int .i64 ((0 : Nat) : Int)) w R hw ⟨by rw [hq0], ?_⟩
    rw [hq0]
    simp only [List.take_zero, List.append_nil, Nat.add_zero]
    exact (by
      apply List.ext_getElem?
      intro j
      rw [List.getElem?_set]
      split
      · rename_i e; subst e; rw [if_pos (List.getElem?_eq_some_iff.1 hi).1, hi]
      · rfl)
  · obtain ⟨a2, rfl⟩ : ∃ a2, A2 = some a2 := by
      obtain ⟨a2, h, _⟩ := hr2.at_ 0 _ (List.getElem?_eq_getElem (by rw [ints_length]; omega))
      exact ⟨a2, h⟩
    have hrun := run_copy_row P w t t2 o.type e g p dl dc a2 m2 c2 cur e (ints k (src.take q)) ht hst hg (by rw [hcl]; exact hq.symm) (fun j v hv => by
      obtain ⟨b, h1, h2⟩ := hr2.at_ j v (by
        rw [ints, List.map_take] at hv
        rw [List.getElem?_take] at hv
        split at hv
        · exact hv
        · cases hv)
      obtain rfl := Option.some.inj h1
      exact h2) (by rw [hcl, hcs]; omega) (ints_one k _)
    rw [hcl] at hrun
    unfold Oper.wp execOp
    simp only [ho, resolve, invoke, builtin, Sem.run_bind, Sem.run_pure, Result.andThen_ok, List.map_toArray, List.map_cons, List.map_nil, hs.ev hx, hs.ev hy, hrun, Oper.upon]
    refine hk (.int .i64 (q : Int)) _ _ ?_ ⟨rfl, rfl⟩
    refine hw.upd hi (row := some g) ⟨rfl, rfl, rfl, by simp, fun j _ hj => setRow_other w g j _ (fun e => hj (by simp [e]))⟩ (Nat.le_refl _) (fun j hj => by cases hj; exact ⟨_, rfl, rfl⟩) ?_ (fun a' ha' => .inl ⟨a', ha', rfl⟩)
    unfold Row.lies
    simp only
    refine ⟨?_, .inr ⟨g, c, _, rfl, hb, setRow_heap w g cur _ e _ hg, by omega, hcm, ?_, ?_⟩⟩
    · simp only [ints_length, List.length_append, List.length_take]; omega
    · simp only [List.size_toArray, List.length_append, List.length_take, List.length_drop, Array.length_toList, ints_length]; omega
    · simp only [Nat.mul_one]
      rw [ints_append, ← htk]
      have h1 : (cur.toList.take p ++ ints k (src.take q)).length = p + q := by
        rw [List.length_append, hcl, List.length_take, Array.length_toList]; omega
      rw [List.take_append, h1, List.take_of_length_le (by omega), Nat.sub_self, List.take_zero, List.append_nil]
theorem y_sliceH {x y : Operand} {t e : TypeId} {A : Option Addr} {m c sz : Nat} {k1 : IntKind} {vh : Int} (ht : P.underlying t = some (.slice e)) (hi : (P.info? e).map (·.size) = some sz) (hx : ev L x = some (.slice A m c)) (hy : ev L y = some (.int k1 vh)) (h0 : 0 ≤ vh) (hc : vh ≤ c) :
    Yl P n B w0 (.slice t x none (some y) none) ty L R (.slice A vh.toNat c) := by
  intro a w o ho _ hs hp
  obtain ⟨i0, hi0, hsz0⟩ := Option.map_eq_some_iff.1 hi
  have hel : P.elem t = e := by simp [Program.elem, ht]
  have ht' : P.underlying t = some (.slice (P.elem t)) := by rw [hel]; exact ht
  simp only [execOp, ho, Option.map_some, Option.map_none, hs.ev hx, hs.ev hy, Sem.run_bind, run_sliceAt_slice w t _ _ _ _ ht', run_slice_h w t A m c ht' k1 vh h0 hc, hel]
  have : (if c = 0 then A else Option.map (fun x => x.add 0) A) = A := by
    split
    · rfl
    · exact pat_zero A
  simp [sizeOf, typeInfo, hi0, hsz0, sliced, this]
theorem y_sliceHM {x y z : Operand} {t e : TypeId} {A : Option Addr} {m c h sz : Nat} {k1 k2 : IntKind} {vh vm : Int} (ht : P.underlying t = some (.slice e)) (hi : (P.info? e).map (·.size) = some sz) (hx : ev L x = some (.slice A m c)) (hy : ev L y = some (.int k1 vh)) (hz : ev L z = some (.int k2 vm)) (e1 : vh = (h : Int)) (e2 : vm = (h : Int)) (hc : h ≤ c) :
    Yl P n B w0 (.slice t x none (some y) (some z)) ty L R (.slice A h h) := by
  subst e1; subst e2
  intro a w o ho _ hs hp
  obtain ⟨i0, hi0, hsz0⟩ := Option.map_eq_some_iff.1 hi
  have hel : P.elem t = e := by simp [Program.elem, ht]
  have ht' : P.underlying t = some (.slice (P.elem t)) := by rw [hel]; exact ht
  simp only [execOp, ho, Option.map_some, Option.map_none, hs.ev hx, hs.ev hy, hs.ev hz, Sem.run_bind, run_sliceAt_slice w t _ _ _ _ ht', run_slice_hm w t A m c ht' k1 k2 (h : Int) (h : Int) (by omega) (by omega) (by omega), hel]
  have : (if h = 0 then A else Option.map (fun x => x.add 0) A) = A := by
    split
    · rfl
    · exact pat_zero A
  simp [sizeOf, typeInfo, hi0, hsz0, sliced, this]
/-- A row that is read only from now on: its room is as we say. -/
theorem Row.lies_ro {w : World} {e sz m c c' : Nat} {A : Option Addr} {xs : List Value} (h : Row.lies B w ⟨e, sz, A, m, c, xs, false⟩) (hA : A ≠ none) (hc : m ≤ c') : Row.lies B w ⟨e, sz, A, m, c', xs, true⟩ := by
  have h1 := Row.lies_w h rfl
  unfold Row.lies
  simp only
  obtain ⟨hl, h2⟩ := h1
  simp only at hl h2
  rcases h2 with ⟨hv, _⟩ | ⟨g, cap, cur, hv, hb, hg, hnc, hcm, hcs, ht⟩
  · simp only [Value.slice.injEq] at hv
    exact absurd hv.1 hA
  · simp only [Value.slice.injEq] at hv
    obtain ⟨rfl, _, rfl⟩ := hv
    exact ⟨g, cur, _, rfl, hb, hg, by omega, hc, hl, ht⟩
theorem Hp.toRo {w : World} {e sz m c c' : Nat} {A : Option Addr} {xs : List Value} (h : Hp B w0 w (⟨e, sz, A, m, c, xs, false⟩ :: R)) (hA : A ≠ none) (hc : m ≤ c') : Hp B w0 w (⟨e, sz, A, m, c', xs, true⟩ :: R) :=
  ⟨h.below, h.base, fun r hr => by
    rcases List.mem_cons.1 hr with rfl | hr
    · exact Row.lies_ro (h.own _ (.head _)) hA hc
    · exact h.own r (.tail _ hr), by
    obtain ⟨h1, h2⟩ := List.pairwise_cons.1 h.apart
    exact List.pairwise_cons.2 ⟨fun r hr => h1 r hr, h2⟩, h.late⟩
theorem RdC.capI {A : Option Addr} {m c c' : Nat} {k : IntKind} {l : List Int} (h : RdC B w0 R A m c 1 (ints k l)) (hc : m ≤ c') : RdC B w0 R A m c' 1 (ints k l) := fun w hw =>
  let q := h w hw
  ⟨q.len, q.max, hc, q.at_⟩
theorem cut_cap {g lo c c' : Nat} (h : lo < c) (h' : lo < c') : cutA (some ⟨g, 0, none⟩) lo c 1 = cutA (some ⟨g, 0, none⟩) lo c' 1 := by rw [cut_addr h, cut_addr h']
/-! ### a word again and again -/
structure RepI (u D : List Int) (N : Nat) (p : Int) : Prop where
  p0 : 0 ≤ p
  pN : p ≤ N
  up : (u.length : Int) ≤ p
  len : (D.length : Int) = p
  at_ : ∀ j : Nat, j < p → lt D j = om u j
  dvd : p = N ∨ (u.length : Int) ∣ p
theorem lt_app {D E : List Int} {j : Nat} : lt (D ++ E) j = if j < D.length then lt D j else lt E (j - D.length) := by
  unfold lt
  rw [List.getD_eq_getElem?_getD]
  split
  · rw [List.getElem?_append_left (by omega), List.getD_eq_getElem?_getD]
  · rw [List.getElem?_append_right (by omega), List.getD_eq_getElem?_getD]
theorem lt_take {D : List Int} {j q : Nat} (h : j < q) : lt (D.take q) j = lt D j := by
  unfold lt
  rw [List.getD_eq_getElem?_getD, List.getElem?_take_of_lt h, List.getD_eq_getElem?_getD]
theorem RepI.init {u : List Int} {N : Nat} (hu : u.length ≤ N) : RepI u ([] ++ u.take (min u.length N)) N ((min u.length N : Nat) : Int) := by
  have e : min u.length N = u.length := by omega
  rw [e, List.nil_append, List.take_length]
  exact ⟨by omega, by omega, by omega, rfl, fun j hj => (om_lt (by omega)).symm, .inr (Int.dvd_refl _)⟩
theorem RepI.step {u D : List Int} {N : Nat} {p : Int} (h : RepI u D N p) (hu : 0 < u.length) (hp : p < N) :
    RepI u (D ++ (D.take (min p N).toNat).take (min (min p N).toNat (N - p.toNat))) N (p + ((min (min p N).toNat (N - p.toNat) : Nat) : Int)) := by
  obtain ⟨p0, pN, up, len, at_, dvd⟩ := h
  have e : min p (N : Int) = p := by omega
  rw [e]
  obtain ⟨q, hq⟩ : ∃ q, min p.toNat (N - p.toNat) = q := ⟨_, rfl⟩
  rw [hq]
  have hd : (u.length : Int) ∣ p := dvd.resolve_left (by omega)
  refine ⟨by omega, by omega, by omega, by rw [List.length_append, List.length_take, List.length_take]; omega, fun j hj => ?_, ?_⟩
  · rw [lt_app]
    split
    · exact at_ j (by omega)
    · rename_i hc
      rw [lt_take (by omega), lt_take (by omega), at_ _ (by omega)]
      obtain ⟨k, hk⟩ := hd
      have hk0 : 0 ≤ k := by
        rcases Int.lt_or_le k 0 with g | g
        · have := Int.mul_nonneg (show (0 : Int) ≤ u.length by omega) (show 0 ≤ -k by omega)
          rw [Int.mul_neg] at this
          omega
        · exact g
      have e3 : D.length = u.length * k.toNat := by
        have : (D.length : Int) = ((u.length * k.toNat : Nat) : Int) := by rw [len, hk, Int.natCast_mul, Int.toNat_of_nonneg hk0]
        exact_mod_cast this
      have := (om_per u).mul k.toNat (j - D.length)
      rw [← this, ← e3, Nat.sub_add_cancel (by omega)]
  · rcases Nat.lt_or_ge q p.toNat with g | g
    · left; omega
    · right
      have : (q : Int) = p := by omega
      rw [this]
      exact Int.dvd_add hd hd
theorem RepI.done {u D : List Int} {cn : Int} {N : Nat} {p : Int} (h : RepI u D N p) (hp : ¬ p < N) (hN : N = cn.toNat * u.length) : D = rep u cn := by
  have hl := h.len
  have hpN := h.pN
  refine list_ext_rd (by rw [rep_length]; omega) fun j h0 h1 => ?_
  have h2 := h.at_ j.toNat (by omega)
  have h3 := rep_getD u cn.toNat j.toNat (by omega)
  rw [lt_rd, h2, ← h3]
  unfold rd rep
  rw [Int.toNat_natCast]
end
end Go.Eng
