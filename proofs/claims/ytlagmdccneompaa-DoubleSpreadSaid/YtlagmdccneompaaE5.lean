/-
  The engine's regions whose order is drawn: what only reads is taken first; what turns memory comes in the order that the region forces. Own work.
-/
import Derived.Test.YtlagmdccneompaaE4
import Derived.OrdersHeld
namespace Go.Eng
open Go Go.RowKit
/-- What ends well in one world ends so in every world, and turns none. -/
def SFree (P : Program) {α : Type} (m : Sem α) : Prop := ∀ w w1 v, m.run P w = .ok v w1 → ∀ w', m.run P w' = .ok v w'
/-- What never ends well. -/
def Never (P : Program) {α : Type} (m : Sem α) : Prop := ∀ w w1 v, m.run P w ≠ .ok v w1
section
variable {P : Program} {α β : Type}
theorem Never.free {m : Sem α} (h : Never P m) : SFree P m := fun w w1 v e => absurd e (h w w1 v)
theorem SFree.pure (a : α) : SFree P (Pure.pure a : Sem α) := fun w w1 v h w' => by
  simp only [Sem.run_pure, Result.ok.injEq] at h ⊢
  exact ⟨h.1, trivial⟩
theorem SFree.bind {m : Sem α} {f : α → Sem β} (hm : SFree P m) (hf : ∀ a, SFree P (f a)) : SFree P (m >>= f) := fun w w1 v h w' => by
  rw [Sem.run_bind] at h ⊢
  cases hr : m.run P w with
  | halt x w2 => rw [hr] at h; cases h
  | ok a w2 =>
    rw [hr] at h
    rw [hm w w2 a hr w']
    exact hf a w2 w1 v h w'
theorem Never.bind {m : Sem α} {f : α → Sem β} (hf : ∀ a, Never P (f a)) : Never P (m >>= f) := fun w w1 v h => by
  rw [Sem.run_bind] at h
  cases hr : m.run P w with
  | halt x w2 => rw [hr] at h; cases h
  | ok a w2 =>
    rw [hr] at h
    exact hf a w2 w1 v h
theorem Never.left {m : Sem α} {f : α → Sem β} (hm : Never P m) : Never P (m >>= f) := fun w w1 v h => by
  rw [Sem.run_bind] at h
  cases hr : m.run P w with
  | halt x w2 => rw [hr] at h; cases h
  | ok a w2 => exact hm w w2 a hr
theorem never_halt (x : Halt) : Never P (.halt x : Sem α) := fun w w1 v h => by cases h
theorem never_panic (e : RuntimeError) : Never P (runtimePanic e : Sem α) := by
  unfold runtimePanic
  refine Never.bind fun p => ?_
  cases e with
  | typeAssertion i c a m => exact Never.bind fun _ => Never.bind fun _ => never_halt _
  | panicNil => exact Never.bind fun _ => Never.bind fun _ => never_halt _
  | _ => exact never_halt _
theorem free_und (t : TypeId) : SFree P (underlying t) := by
  unfold underlying
  refine SFree.bind (fun w w1 v h w' => ?_) fun p => ?_
  · simp only [program, Sem.run, Result.ok.injEq] at h ⊢; exact ⟨h.1, trivial⟩
  · split
    · exact SFree.pure _
    · exact (never_halt _).free
theorem free_info (t : TypeId) : SFree P (typeInfo t) := by
  unfold typeInfo
  refine SFree.bind (fun w w1 v h w' => ?_) fun p => ?_
  · simp only [program, Sem.run, Result.ok.injEq] at h ⊢; exact ⟨h.1, trivial⟩
  · split
    · exact SFree.pure _
    · exact (never_halt _).free
theorem free_size (t : TypeId) : SFree P (sizeOf t) := SFree.bind (free_info t) fun _ => SFree.pure _
theorem free_bound (x : Value) (y : Nat) (c : BoundsCode) : SFree P (Instr.sliceBound x y c) := by
  unfold Instr.sliceBound
  refine SFree.bind ?_ fun p => ?_
  · unfold asIntOf
    split
    · exact SFree.pure _
    · exact (never_halt _).free
    · exact (never_halt _).free
  · obtain ⟨k, i⟩ := p
    simp only
    split
    · exact SFree.pure _
    · unfold boundsPanic
      dsimp only
      split
      · exact (Never.bind fun _ => never_panic _).free
      · exact (Never.bind fun _ => never_panic _).free
theorem free_bounds (b : Bool) (n c : Nat) (lo hi mx : Option Value) : SFree P (Instr.sliceBounds b n c lo hi mx) := by
  unfold Instr.sliceBounds
  cases mx with
  | none =>
    refine SFree.bind (SFree.pure _) fun m => ?_
    cases hi with
    | none =>
      refine SFree.bind (SFree.pure _) fun h => ?_
      cases lo with
      | none => exact SFree.bind (SFree.pure _) fun l => SFree.pure _
      | some v => exact SFree.bind (free_bound _ _ _) fun l => SFree.pure _
    | some u =>
      refine SFree.bind (free_bound _ _ _) fun h => ?_
      cases lo with
      | none => exact SFree.bind (SFree.pure _) fun l => SFree.pure _
      | some v => exact SFree.bind (free_bound _ _ _) fun l => SFree.pure _
  | some x =>
    refine SFree.bind (free_bound _ _ _) fun m => ?_
    cases hi with
    | none => exact (Never.left (never_halt _)).free
    | some u =>
      refine SFree.bind (free_bound _ _ _) fun h => ?_
      cases lo with
      | none => exact SFree.bind (SFree.pure _) fun l => SFree.pure _
      | some v => exact SFree.bind (free_bound _ _ _) fun l => SFree.pure _
theorem free_addr (x : Value) : SFree P (asAddr x) := by
  unfold asAddr
  split
  · exact SFree.pure _
  · exact (never_panic _).free
  · exact (never_halt _).free
theorem free_slice (t : TypeId) (x : Value) (lo hi mx : Option Value) : SFree P (Instr.slice t x lo hi mx) := by
  unfold Instr.slice
  refine SFree.bind (free_und t) fun d => ?_
  split
  · split
    · exact (Never.left (never_halt _)).free
    · exact SFree.bind (free_bounds _ _ _ _ _ _) fun _ => SFree.pure _
  · exact SFree.bind (free_bounds _ _ _ _ _ _) fun _ => SFree.bind (free_size _) fun _ => SFree.pure _
  · refine SFree.bind (free_addr _) fun _ => SFree.bind (free_und _) fun _ => ?_
    split
    · exact SFree.bind (free_bounds _ _ _ _ _ _) fun _ => SFree.bind (free_size _) fun _ => SFree.pure _
    · exact (never_halt _).free
  · exact (never_halt _).free
theorem free_sure (x : Value) : SFree P (Instr.sureAddr x) := by
  unfold Instr.sureAddr
  split
  · exact SFree.pure _
  · exact (never_halt _).free
theorem free_sliceAt (t : TypeId) (x : Value) (lo hi mx : Option Value) : SFree P (Instr.sliceAt t x lo hi mx) := by
  unfold Instr.sliceAt
  refine SFree.bind (free_und t) fun d => ?_
  split
  · exact SFree.bind (free_sure _) fun _ => SFree.bind (free_bounds _ _ _ _ _ _) fun _ => SFree.bind (free_size _) fun _ => SFree.pure _
  · exact free_slice _ _ _ _ _
end
/-- What ends in the world it began in ends so in every world. -/
def Stay (P : Program) {α : Type} (m : Sem α) : Prop := ∀ w v, m.run P w = .ok v w → ∀ w', m.run P w' = .ok v w'
/-- What never ends in the world it began in. -/
def NoSame (P : Program) {α : Type} (m : Sem α) : Prop := ∀ w v, m.run P w ≠ .ok v w
section
variable {P : Program} {α β : Type}
theorem SFree.stay {m : Sem α} (h : SFree P m) : Stay P m := fun w v e => h w w v e
theorem NoSame.stay {m : Sem α} (h : NoSame P m) : Stay P m := fun w v e => absurd e (h w v)
theorem Never.noSame {m : Sem α} (h : Never P m) : NoSame P m := fun w v e => h w w v e
theorem NoSame.bind {m : Sem α} {f : α → Sem β} (hm : SFree P m) (hf : ∀ a, NoSame P (f a)) : NoSame P (m >>= f) := fun w v h => by
  rw [Sem.run_bind] at h
  cases hr : m.run P w with
  | halt x w2 => rw [hr] at h; cases h
  | ok a w2 =>
    have h2 := hm w w2 a hr w
    rw [hr] at h2
    cases h2
    rw [hr] at h
    exact hf a w v h
theorem NoSame.left {m : Sem α} {f : α → β} (hm : NoSame P m) : NoSame P (m >>= fun a => (Pure.pure (f a) : Sem β)) := fun w v h => by
  rw [Sem.run_bind] at h
  cases hr : m.run P w with
  | halt x w2 => rw [hr] at h; cases h
  | ok a w2 =>
    rw [hr] at h
    simp only [Result.andThen, Sem.run_pure, Result.ok.injEq] at h
    rw [h.2] at hr
    exact hm w a hr
theorem free_zero (t : TypeId) : SFree P (zeroValue t) := by
  unfold zeroValue
  refine SFree.bind (free_info t) fun i => ?_
  split
  · exact SFree.pure _
  · exact (never_halt _).free
theorem newRow_noSame (e : TypeId) (cs : Array Value) : NoSame P (newRow e cs) := fun w v h => by
  simp [newRow, newObj, Sem.run, Result.andThen] at h
  have := congrArg (fun w : World => w.heap.size) h.2
  unfold World.alloc at this
  simp only [Array.size_push] at this
  omega
theorem free_mapML (f : α → Sem β) (hf : ∀ a, SFree P (f a)) : ∀ l : List α, SFree P (l.mapM f)
  | [] => by rw [List.mapM_nil]; exact SFree.pure _
  | a :: l => by
    rw [List.mapM_cons]
    exact SFree.bind (hf a) fun _ => SFree.bind (free_mapML f hf l) fun _ => SFree.pure _
theorem free_mapM (f : α → Sem β) (hf : ∀ a, SFree P (f a)) (l : Array α) : SFree P (l.mapM f) := by
  rw [Array.mapM_eq_mapM_toList, ← bind_pure_comp]
  exact SFree.bind (free_mapML f hf _) fun _ => SFree.pure _
theorem free_build (t : TypeId) (ps : Array (Nat × Value)) : SFree P (Instr.build t ps) := by
  unfold Instr.build
  refine SFree.bind (free_zero t) fun z => ?_
  refine SFree.bind (free_und t) fun d => ?_
  split
  · refine SFree.bind (free_mapM _ (fun _ => SFree.bind (free_size _) fun _ => SFree.pure _) _) fun _ => ?_
    split
    · exact SFree.pure _
    · exact (never_halt _).free
  · refine SFree.bind (free_size _) fun _ => ?_
    split
    · exact SFree.pure _
    · exact (never_halt _).free
  · exact (never_halt _).free
theorem noSame_buildSlice (t : TypeId) (n : Nat) (ps : Array (Nat × Value)) : NoSame P (Instr.buildSlice t n ps) := by
  unfold Instr.buildSlice
  refine NoSame.bind (free_und t) fun d => ?_
  split
  · refine NoSame.bind (free_size _) fun s => ?_
    dsimp only
    split
    · exact (Never.left (never_halt _)).noSame
    · split
      · refine NoSame.bind (SFree.pure _) fun z => ?_
        split
        · exact NoSame.left (newRow_noSame _ _)
        · exact (never_halt _).noSame
      · refine NoSame.bind (free_zero _) fun z => ?_
        refine NoSame.bind (SFree.pure _) fun z => ?_
        split
        · exact NoSame.left (newRow_noSame _ _)
        · exact (never_halt _).noSame
  · exact (never_halt _).noSame
theorem noSame_box (t : TypeId) (v : Value) : NoSame P (Instr.box t v) := NoSame.left (newRow_noSame _ _)
end
/-- Operations that read no world, and such as never leave it as it was. -/
def isMove : Op → Bool
  | .move _ => true
  | .slice .. => true
  | .build .. => true
  | .buildSlice .. => true
  | .box .. => true
  | _ => false
theorem free_op {P : Program} {o : Oper} (h : isMove o.op = true) (ρ : Operand → Value) : Stay P (execOp ρ o) := by
  unfold execOp
  cases ho : o.op <;> (try (rw [ho] at h; cases h))
  · exact (SFree.pure _).stay
  · exact (NoSame.left (noSame_box _ _)).stay
  · exact (SFree.bind (free_build _ _) fun _ => SFree.pure _).stay
  · exact (NoSame.left (noSame_buildSlice _ _ _)).stay
  · exact (SFree.bind (free_sliceAt _ _ _ _ _) fun _ => SFree.pure _).stay
section
variable {P : Program} {ops : Array Oper} {Q : Exit → Act → World → Prop}
/-- Is operation k bound to come ahead of j, directly or through others? -/
def anc (ops : Array Oper) : Nat → Nat → Nat → Bool
  | 0, _, _ => false
  | f + 1, j, k => ((ops[j]?).map (·.after.any fun e => Region.binds .any e && (Nat.beq e.on k || anc ops f e.on k))).getD false
/-- Whoever comes up now waits for all that have come up, but for those that only move. -/
def barB (ops : Array Oper) (listed : Array Bool) (i : Nat) : Bool :=
  (List.range ops.size).all fun k => !listed.getD k false || anc ops ops.size i k || ((ops[k]?).map (isMove ·.op)).getD false
/-- What has come up waited for none that has not. -/
def closedB (ops : Array Oper) (listed : Array Bool) : Bool :=
  (List.range ops.size).all fun k => !listed.getD k false || ((ops[k]?).map (·.after.all fun e => !Region.binds .any e || listed.getD e.on false)).getD false
theorem closedB_spec {listed : Array Bool} (h : closedB ops listed = true) {k : Nat} {o : Oper} (hk : ops[k]? = some o) (hl : listed.getD k false = true) : ∀ e ∈ o.after, Region.binds .any e = true → listed.getD e.on false = true := by
  intro e he hb
  have hlt : k < ops.size := (Array.getElem?_eq_some_iff.1 hk).1
  have := List.all_eq_true.1 h k (List.mem_range.2 hlt)
  rw [hl, hk] at this
  simp only [Bool.not_true, Bool.false_or, Option.map_some, Option.getD_some] at this
  obtain ⟨q, hq, rfl⟩ := Array.mem_iff_getElem.1 he
  have h2 := Array.all_eq_true.1 this q hq
  rw [hb] at h2
  simpa using h2
theorem anc_listed {listed : Array Bool} (hc : closedB ops listed = true) : ∀ (f j k : Nat) (oj : Oper), ops[j]? = some oj → (∀ e ∈ oj.after, Region.binds .any e = true → listed.getD e.on false = true) → anc ops f j k = true → listed.getD k false = true
  | 0, _, _, _, _, _, h => by cases h
  | f + 1, j, k, oj, hoj, hall, h => by
    unfold anc at h
    rw [hoj] at h
    simp only [Option.map_some, Option.getD_some, Array.any_eq_true] at h
    obtain ⟨q, hq, h⟩ := h
    have he : oj.after[q] ∈ oj.after := Array.getElem_mem hq
    simp only [Bool.and_eq_true, Bool.or_eq_true] at h
    have hl := hall _ he h.1
    rcases h.2 with h2 | h2
    · rw [← Nat.eq_of_beq_eq_true h2]; exact hl
    · cases ho : ops[oj.after[q].on]? with
      | none =>
        exfalso
        cases f with
        | zero => cases h2
        | succ f => unfold anc at h2; rw [ho] at h2; simp at h2
      | some om => exact anc_listed hc f _ k om ho (closedB_spec hc ho hl) h2
theorem closedB_set {listed : Array Bool} (hc : closedB ops listed = true) {j : Nat} {oj : Oper} (hoj : ops[j]? = some oj) (hall : ∀ e ∈ oj.after, Region.binds .any e = true → listed.getD e.on false = true) : closedB ops (listed.setIfInBounds j true) = true := by
  have up : ∀ k, listed.getD k false = true → (listed.setIfInBounds j true).getD k false = true := by
    intro k hk
    by_cases e : j = k
    · subst e
      have hlt : j < listed.size := by
        rcases Nat.lt_or_ge j listed.size with h | h
        · exact h
        · simp [Array.getElem?_eq_none h] at hk
      simp [hlt]
    · simp only [Array.getD_eq_getD_getElem?, Array.getElem?_setIfInBounds, e, if_false] at hk ⊢
      exact hk
  unfold closedB
  refine List.all_eq_true.2 fun k hk => ?_
  by_cases hkj : k = j
  · subst hkj
    rw [hoj]
    simp only [Option.map_some, Option.getD_some]
    have : (oj.after.all fun e => !Region.binds .any e || (listed.setIfInBounds k true).getD e.on false) = true := by
      refine Array.all_eq_true.2 fun q hq => ?_
      cases hb : Region.binds .any oj.after[q] with
      | false => rfl
      | true => simp only [Bool.not_true, Bool.false_or]; exact up _ (hall _ (Array.getElem_mem hq) hb)
    rw [this, Bool.or_true]
  · cases hl : listed.getD k false with
    | false =>
      have : (listed.setIfInBounds j true).getD k false = false := by
        simp only [Array.getD_eq_getD_getElem?, Array.getElem?_setIfInBounds, Ne.symm hkj, if_false] at hl ⊢
        exact hl
      rw [this]; rfl
    | true =>
      cases ho : ops[k]? with
      | none =>
        have h0 := List.mem_range.1 hk
        rw [Array.getElem?_eq_none_iff] at ho
        omega
      | some ok =>
        have h1 := closedB_spec hc ho hl
        have : (ok.after.all fun e => !Region.binds .any e || (listed.setIfInBounds j true).getD e.on false) = true := by
          refine Array.all_eq_true.2 fun q hq => ?_
          cases hb : Region.binds .any ok.after[q] with
          | false => rfl
          | true => simp only [Bool.not_true, Bool.false_or]; exact up _ (h1 _ (Array.getElem_mem hq) hb)
        simp only [Option.map_some, Option.getD_some, this, Bool.or_true]
def wpAnyB (P : Program) (ops : Array Oper) (Q : Exit → Act → World → Prop) : Nat → (World → Prop) → Array Bool → Act → World → Prop
  | 0, _, listed, a, w => Region.ready .any ops listed = [] ∧ Q .normal a w
  | fuel + 1, S, listed, a, w => (Region.ready .any ops listed = [] → Q .normal a w) ∧
    ∀ i ∈ Region.ready .any ops listed, wpOp P ops Q i (fun a' w' => ∃ S' : World → Prop, S' w' ∧ (barB ops listed i = true ∨ ∀ x, S' x → S x) ∧ wpAnyB P ops Q fuel S' (listed.setIfInBounds i true) a' w') a w
theorem wpAny_of_B : ∀ (fuel : Nat) (S : World → Prop) (listed : Array Bool) (a : Act) (w : World), wpAnyB P ops Q fuel S listed a w → wpAny P .any ops Q fuel listed a w
  | 0, _, _, _, _, h => h
  | fuel + 1, _, _, _, _, h => ⟨h.1, fun i hi => wpOp_mono (fun a' w' ⟨S', _, _, h'⟩ => wpAny_of_B fuel S' _ a' w' h') (h.2 i hi)⟩
theorem YieldsIf.shrink {S S' : World → Prop} {o : Oper} {v : Value} {a : Act} (h : YieldsIf P ops S o v a) (hs : ∀ x, S' x → S x) : YieldsIf P ops S' o v a :=
  h.imp (fun ⟨hw, hv⟩ => ⟨hw, fun w hw' => hv w (hs w hw')⟩) id
theorem wpAnyB_first {i : Nat} {oi : Oper} {v : Value} (hi : ops[i]? = some oi) (hsel : ∀ (j : Nat) (o : Oper) cs b, ops[j]? = some o → o.op ≠ .select cs b)
    (hQ : ∀ c a w, Q (.panic c) (a.put oi.dst v) w → Q (.panic c) a w) :
    ∀ (fuel : Nat) (S : World → Prop) (listed : Array Bool) (a : Act) (w : World),
      closedB ops listed = true → (∀ j oj, ops[j]? = some oj → j ≠ i → listed.getD j true = false → (∀ e ∈ oj.after, Region.binds .any e = true → e.on ≠ i) → oi.apart ops oj = true) →
      i ∈ Region.ready .any ops listed → YieldsIf P ops S oi v a → S w →
      wpAnyB P ops Q fuel S (listed.setIfInBounds i true) (a.put oi.dst v) w → wpAnyB P ops Q (fuel + 1) S listed a w := by
  intro fuel
  induction fuel with
  | zero =>
    intro S listed a w _ _ hr hy hS H
    refine ⟨fun h => (by rw [h] at hr; cases hr), fun j hj => ?_⟩
    by_cases hji : j = i
    · subst hji; exact hy.wpOp hi hS ⟨S, hS, .inr fun _ h => h, H⟩
    · have := ready_mono hj hji
      rw [H.1] at this
      cases this
  | succ fuel ih =>
    intro S listed a w hcl hfree hr hy hS H
    refine ⟨fun h => (by rw [h] at hr; cases hr), fun j hj => ?_⟩
    by_cases hji : j = i
    · subst hji; exact hy.wpOp hi hS ⟨S, hS, .inr fun _ h => h, H⟩
    · have h1 := H.2 j (ready_mono hj hji)
      obtain ⟨hjun, oj, hoj, hall⟩ := mem_ready.1 hj
      have hilt : i < listed.size := by
        have h0 := (mem_ready.1 hr).1
        rcases Nat.lt_or_ge i listed.size with h' | h'
        · exact h'
        · simp [Array.getElem?_eq_none h'] at h0
      have hnot : ∀ e ∈ oj.after, Region.binds .any e = true → e.on ≠ i := fun e he hb heq => by
        have h1 := hall e he hb
        have h0 := (mem_ready.1 hr).1
        rw [heq] at h1
        simp [hilt] at h0 h1; rw [h0] at h1; cases h1
      have h2 := wpOp_putIf hoj (hfree j oj hoj hji hjun hnot) (fun cs b => hsel i oi cs b hi) (fun cs b => hsel j oj cs b hoj) hQ hy h1
      have hfree' : ∀ k ok, ops[k]? = some ok → k ≠ i → (listed.setIfInBounds j true).getD k true = false →
          (∀ e ∈ ok.after, Region.binds .any e = true → e.on ≠ i) → oi.apart ops ok = true := fun k ok hk hki hun hno => by
        refine hfree k ok hk hki ?_ hno
        by_cases hjk : j = k
        · subst hjk; exact hjun
        · rw [getD_set_ne true hjk] at hun; exact hun
      refine wpOp_mono (fun a' w' ⟨hy', S', hS', hsub, hB⟩ => ?_) h2
      have hun : listed.getD i false = false := by
        have h0 := (mem_ready.1 hr).1
        simp [hilt] at h0 ⊢
        exact h0
      have hboth : (barB ops listed j = true ∨ ∀ x, S' x → S x) ∧ YieldsIf P ops S' oi v a' := by
        rcases hsub with hb | hs
        · have hio : i < ops.size := (Array.getElem?_eq_some_iff.1 hi).1
          have hbi := List.all_eq_true.1 hb i (List.mem_range.2 hio)
          have e1 : (listed.setIfInBounds i true).getD i false = true := by simp [hilt]
          rw [e1, hi] at hbi
          simp only [Bool.not_true, Bool.false_or, Option.map_some, Option.getD_some, Bool.or_eq_true] at hbi
          rcases hbi with ha | hm
          · have := anc_listed hcl _ j i oj hoj hall ha
            rw [hun] at this
            cases this
          · refine ⟨.inl ?_, ?_⟩
            · refine List.all_eq_true.2 fun k hk => ?_
              have h3 := List.all_eq_true.1 hb k hk
              by_cases e : i = k
              · subst e
                rw [hun]
                rfl
              · simp only [Array.getD_eq_getD_getElem?, Array.getElem?_setIfInBounds, e, if_false] at h3 ⊢
                exact h3
            · exact hy'.imp (fun ⟨hw, hv⟩ => ⟨hw, fun w'' _ => free_op hm _ _ _ (hv w hS) w''⟩) id
        · exact ⟨.inr hs, YieldsIf.shrink hy' hs⟩
      refine ⟨S', hS', hboth.1, ih S' (listed.setIfInBounds j true) a' w' (closedB_set hcl hoj hall) hfree' (ready_mono hr (Ne.symm hji)) hboth.2 hS' ?_⟩
      rw [Array.setIfInBounds_comm _ _ hji]
      exact hB
end
section
variable {P : Program} {n B : Nat} {w0 : World} {ops : Array Oper} {K : Env → List Row → Prop} {L : Env} {R : List Row} {op : Op} {ty : TypeId} {pos : String} {aft : Array Edge}
def WD (P : Program) (n B : Nat) (w0 : World) (ops : Array Oper) (K : Env → List Row → Prop) (fuel : Nat) (listed : Array Bool) (L : Env) (R : List Row) : Prop :=
  ∀ a w (Q : Exit → Act → World → Prop), Sat n L a → Hp B w0 w R → (∀ c a w, ¬ Q (.panic c) a w) → (∀ a' w' L' R', Sat n L' a' → Hp B w0 w' R' → K L' R' → Q .normal a' w') → wpAnyB P ops Q fuel (fun w => Hp B w0 w R) listed a w
theorem w_regd {id : Nat} {l : List Oper} {Q : PostC} (hm : P.follows .mixedOrders = true) (h : WD P n B w0 l.toArray Q.nrm l.toArray.size (Array.replicate l.toArray.size false) L R) : W P n B w0 (.region id l.toArray true) Q L R := by
  intro a w hs hp
  refine wp_region_any hm (wpAny_of_B _ _ _ _ _ (h a _ _ hs (hp.drawn _ (Nat.le_succ _)) (fun _ _ _ h => h) fun _ _ L' R' hs' hp' hk => ⟨L', R', hs', hp', hk⟩))
def chk (ops : Array Oper) (listed : Array Bool) (i : Nat) : Bool := Region.noSelect ops && Region.free .any ops listed i && (Region.ready .any ops listed).contains i && closedB ops listed
theorem wd_take {i : Nat} {d : Nat} {v : Value} {o : Oper} {fuel : Nat} {listed : Array Bool} (hi : ops[i]? = some o) (hd : o.dst = some d) (hc : chk ops listed i = true) (hn : Nat.blt d n = true)
    (hy : ∀ a, Sat n L a → YieldsIf P ops (fun w => Hp B w0 w R) o v a) (h : WD P n B w0 ops K fuel (listed.setIfInBounds i true) ((d, v) :: L) R) : WD P n B w0 ops K (fuel + 1) listed L R := by
  intro a w Q hs hp hpan hq
  simp only [chk, Bool.and_eq_true] at hc
  obtain ⟨⟨⟨h1, h2⟩, h3⟩, h4⟩ := hc
  refine wpAnyB_first hi (Region.noSelect_spec h1) (fun c a w hh => (hpan c _ w hh).elim) fuel _ listed a w h4 (Region.free_spec hi h2) (by simpa using h3) (hy a hs) hp ?_
  rw [hd]
  exact h _ w Q (hs.put hn v) hp hpan hq
theorem wd_y {d : Nat} {v : Value} {fuel : Nat} {listed : Array Bool} (i : Nat) (hi : ops[i]? = some { dst := some d, op := op, type := ty, pos := pos, after := aft, guard := none }) (hc : chk ops listed i = true) (hn : Nat.blt d n = true)
    (hy : Yl P n B w0 op ty L R v) (h : WD P n B w0 ops K fuel (listed.setIfInBounds i true) ((d, v) :: L) R) : WD P n B w0 ops K (fuel + 1) listed L R :=
  wd_take hi rfl hc hn (fun a hs => .inl ⟨rfl, fun w hw => hy a w _ rfl rfl hs hw⟩) h
theorem wd_yg {d j e : Nat} {want : Bool} {v : Value} {fuel : Nat} {listed : Array Bool} (i : Nat) (hi : ops[i]? = some { dst := some d, op := op, type := ty, pos := pos, after := aft, guard := some (j, want) }) (hc : chk ops listed i = true) (hn : Nat.blt d n = true)
    (hj : (ops[j]?).bind (·.dst) = some e) (hb : lk L e = some (.bool want)) (hy : Yl P n B w0 op ty L R v) (h : WD P n B w0 ops K fuel (listed.setIfInBounds i true) ((d, v) :: L) R) : WD P n B w0 ops K (fuel + 1) listed L R :=
  wd_take hi rfl hc hn (fun a hs => .inl ⟨by simp [Region.wanted, yielded_of hs hj hb], fun w hw => hy a w _ rfl rfl hs hw⟩) h
theorem wd_no {d j e : Nat} {want b : Bool} {fuel : Nat} {listed : Array Bool} (i : Nat) (hi : ops[i]? = some { dst := some d, op := op, type := ty, pos := pos, after := aft, guard := some (j, want) }) (hc : chk ops listed i = true) (hn : Nat.blt d n = true)
    (hj : (ops[j]?).bind (·.dst) = some e) (hb : lk L e = some (.bool b)) (hne : (b == want) = false) (h : WD P n B w0 ops K fuel (listed.setIfInBounds i true) ((d, undef) :: L) R) : WD P n B w0 ops K (fuel + 1) listed L R :=
  wd_take hi rfl hc hn (fun a hs => .inr ⟨by simp only [Region.wanted, yielded_of hs hj hb]; cases b <;> cases want <;> simp_all, rfl⟩) h
theorem wd_nou {d j e : Nat} {want : Bool} {fuel : Nat} {listed : Array Bool} (i : Nat) (hi : ops[i]? = some { dst := some d, op := op, type := ty, pos := pos, after := aft, guard := some (j, want) }) (hc : chk ops listed i = true) (hn : Nat.blt d n = true)
    (hj : (ops[j]?).bind (·.dst) = some e) (hb : lk L e = some undef) (h : WD P n B w0 ops K fuel (listed.setIfInBounds i true) ((d, undef) :: L) R) : WD P n B w0 ops K (fuel + 1) listed L R :=
  wd_take hi rfl hc hn (fun a hs => .inr ⟨by simp [Region.wanted, yielded_undef hs hj hb], rfl⟩) h
theorem wd_nil {fuel : Nat} {listed : Array Bool} (hr : Region.ready .any ops listed = []) (h : K L R) : WD P n B w0 ops K fuel listed L R := by
  intro a w Q hs hp hpan hq
  cases fuel with
  | zero => exact ⟨hr, hq _ _ L R hs hp h⟩
  | succ fuel => exact ⟨fun _ => hq _ _ L R hs hp h, by rw [hr]; simp⟩
/-- One that may turn memory: at its turn it is the only one that may come up. -/
theorem wd_act {i : Nat} {o : Oper} {Post : Value → List Row → Prop} {fuel : Nat} {listed : Array Bool} (hi : ops[i]? = some o) (hr : Region.ready .any ops listed = [i]) (hg : ∀ a, Sat n L a → Region.wanted o (yielded ops a.tmps) = true) (ha : Ac P n B w0 o.op o.type L R Post)
    (hn : ∀ v a, Sat n L a → Sat n (match o.dst with | some d => (d, v) :: L | none => L) (a.put o.dst v))
    (h : ∀ v R', Post v R' → (barB ops listed i = true ∨ ∀ w, Hp B w0 w R' → Hp B w0 w R) ∧ WD P n B w0 ops K fuel (listed.setIfInBounds i true) (match o.dst with | some d => (d, v) :: L | none => L) R') : WD P n B w0 ops K (fuel + 1) listed L R := by
  intro a w Q hs hp hpan hq
  refine ⟨fun h0 => absurd (hr ▸ h0) (by simp), fun j hj => ?_⟩
  rw [hr] at hj
  obtain rfl := List.mem_singleton.1 hj
  unfold wpOp
  simp only [hi, hg a hs, if_true]
  refine .inl (ha a w o _ Q rfl rfl hs hp fun v w' R' hp' hv => ?_)
  obtain ⟨h1, h2⟩ := h v R' hv
  exact ⟨fun w => Hp B w0 w R', hp', h1, h2 _ w' Q (hn v a hs) hp' hpan hq⟩
theorem wd_a {d : Nat} {Post : Value → List Row → Prop} {fuel : Nat} {listed : Array Bool} (i : Nat) (hi : ops[i]? = some { dst := some d, op := op, type := ty, pos := pos, after := aft, guard := none }) (hr : Region.ready .any ops listed = [i]) (hn : Nat.blt d n = true) (ha : Ac P n B w0 op ty L R Post)
    (h : ∀ v R', Post v R' → (barB ops listed i = true ∨ ∀ w, Hp B w0 w R' → Hp B w0 w R) ∧ WD P n B w0 ops K fuel (listed.setIfInBounds i true) ((d, v) :: L) R') : WD P n B w0 ops K (fuel + 1) listed L R :=
  wd_act hi hr (fun _ _ => rfl) ha (fun v _ hs => hs.put hn v) h
theorem wd_ag {d j e : Nat} {want : Bool} {Post : Value → List Row → Prop} {fuel : Nat} {listed : Array Bool} (i : Nat) (hi : ops[i]? = some { dst := some d, op := op, type := ty, pos := pos, after := aft, guard := some (j, want) }) (hr : Region.ready .any ops listed = [i]) (hn : Nat.blt d n = true)
    (hj : (ops[j]?).bind (·.dst) = some e) (hb : lk L e = some (.bool want)) (ha : Ac P n B w0 op ty L R Post)
    (h : ∀ v R', Post v R' → (barB ops listed i = true ∨ ∀ w, Hp B w0 w R' → Hp B w0 w R) ∧ WD P n B w0 ops K fuel (listed.setIfInBounds i true) ((d, v) :: L) R') : WD P n B w0 ops K (fuel + 1) listed L R :=
  wd_act hi hr (fun a hs => by simp [Region.wanted, yielded_of hs hj hb]) ha (fun v _ hs => hs.put hn v) h
theorem wd_n {Post : Value → List Row → Prop} {fuel : Nat} {listed : Array Bool} (i : Nat) (hi : ops[i]? = some { dst := none, op := op, type := ty, pos := pos, after := aft, guard := none }) (hr : Region.ready .any ops listed = [i]) (ha : Ac P n B w0 op ty L R Post)
    (h : ∀ v R', Post v R' → (barB ops listed i = true ∨ ∀ w, Hp B w0 w R' → Hp B w0 w R) ∧ WD P n B w0 ops K fuel (listed.setIfInBounds i true) L R') : WD P n B w0 ops K (fuel + 1) listed L R :=
  wd_act hi hr (fun _ _ => rfl) ha (fun _ _ hs => hs) h
theorem wd_case {fuel : Nat} {listed : Array Bool} (d : Nat) {p : Prop} [Decidable p] (hb : lk L d = some (.bool (decide p))) (ht : p → WD P n B w0 ops K fuel listed ((d, .bool true) :: L) R) (hf : ¬ p → WD P n B w0 ops K fuel listed ((d, .bool false) :: L) R) : WD P n B w0 ops K fuel listed L R := by
  intro a w Q hs hp hq
  by_cases h : p
  · exact ht h a w Q (hs.sub (lk_shadow (by rw [hb, decide_eq_true h]))) hp hq
  · exact hf h a w Q (hs.sub (lk_shadow (by rw [hb, decide_eq_false h]))) hp hq
theorem wd_as {fuel : Nat} {listed : Array Bool} {d : Nat} {u v : Value} (hu : u = v) (h : WD P n B w0 ops K fuel listed ((d, v) :: L) R) : WD P n B w0 ops K fuel listed ((d, u) :: L) R := by
  subst hu
  exact h
theorem wd_rows {fuel : Nat} {listed : Array Bool} {R1 : List Row} (hR : R = R1) (h : WD P n B w0 ops K fuel listed L R1) : WD P n B w0 ops K fuel listed L R := by
  subst hR
  exact h
theorem wd_sub {fuel : Nat} {listed : Array Bool} {L1 : Env} (hL : Sub L1 L) (h : WD P n B w0 ops K fuel listed L1 R) : WD P n B w0 ops K fuel listed L R :=
  fun a w Q hs hp hq => h a w Q (hs.sub hL) hp hq
theorem wd_mono {fuel : Nat} {listed : Array Bool} {K' : Env → List Row → Prop} (h : WD P n B w0 ops K' fuel listed L R) (hk : ∀ L R, K' L R → K L R) : WD P n B w0 ops K fuel listed L R :=
  fun a w Q hs hp hpan hq => h a w Q hs hp hpan fun a' w' L' R' hs' hp' hk' => hq a' w' L' R' hs' hp' (hk _ _ hk')
theorem wd_join {σ : Type} {fuel : Nat} {listed : Array Bool} (Lx : σ → Env) (Rx : σ → List Row) (J : σ → Prop) (h : WD P n B w0 ops (Fam B w0 Lx Rx J) fuel listed L R) (hk : ∀ s, J s → ∀ L R, Sub (Lx s) L → (∀ w, Hp B w0 w R → Hp B w0 w (Rx s)) → K L R) : WD P n B w0 ops K fuel listed L R :=
  wd_mono h fun L R ⟨s, hJ, hL, hR⟩ => hk s hJ L R hL hR
end
end Go.Eng
