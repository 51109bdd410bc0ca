/-
  The engine's core: symbolic execution of the model's code over a class of worlds. Own work.
  State: L (what is known of the slots) and R (rows of memory that the call owns); the world is any that fits them.
-/
import Derived.WalkKit
import Derived.Maps.AppendAt
import Derived.Deep.LoopGhost
import Derived.Orders
namespace Go.Eng
open Go Go.RowKit

/-! ### slots -/
abbrev Env := List (Nat × Value)
def lk : Env → Nat → Option Value
  | [], _ => none
  | (k, v) :: r, t => bif Nat.beq k t then some v else lk r t
def ev (L : Env) : Operand → Option Value
  | .tmp t => lk L t
  | .const v => some v
  | .global g => some (.pointer (some ⟨g, 0, none⟩))
  | .func f => some (.func (.func f) #[] #[])
structure Sat (n : Nat) (L : Env) (a : Act) : Prop where
  size : a.tmps.size = n
  defers : a.defers = []
  val : ∀ t v, lk L t = some v → a.tmps[t]? = some v
theorem Sat.getD {n : Nat} {L : Env} {a : Act} (h : Sat n L a) {t : Nat} {v : Value} (hx : lk L t = some v) : a.tmps.getD t undef = v := by
  rw [Array.getD_eq_getD_getElem?, h.val t v hx]; rfl
theorem Sat.ev {n : Nat} {L : Env} {a : Act} (h : Sat n L a) {x : Operand} {v : Value} (hx : ev L x = some v) : a.eval x = v := by
  cases x with
  | tmp t => exact h.getD hx
  | const u => exact Option.some.inj hx
  | global g => exact Option.some.inj hx
  | func f => exact Option.some.inj hx
theorem lk_cons {L : Env} {k t : Nat} {v u : Value} (h : lk ((k, v) :: L) t = some u) : (k = t ∧ v = u) ∨ (k ≠ t ∧ lk L t = some u) := by
  unfold lk at h
  cases hb : Nat.beq k t with
  | true => rw [hb] at h; exact .inl ⟨Nat.eq_of_beq_eq_true hb, Option.some.inj h⟩
  | false => rw [hb] at h; exact .inr ⟨Nat.ne_of_beq_eq_false hb, h⟩
theorem Sat.put {n : Nat} {L : Env} {a : Act} (h : Sat n L a) {d : Nat} (hd : Nat.blt d n = true) (v : Value) : Sat n ((d, v) :: L) (a.put (some d) v) := by
  have hd' : d < n := Nat.le_of_ble_eq_true hd
  refine ⟨by simp [Act.put, h.size], by simp [Act.put, h.defers], fun t u hu => ?_⟩
  rcases lk_cons hu with ⟨rfl, rfl⟩ | ⟨hne, hl⟩
  · simp [Act.put, h.size, hd']
  · rw [← h.val t u hl]
    simp [Act.put, hne]
theorem Sat.putNone {n : Nat} {L : Env} {a : Act} (h : Sat n L a) (v : Value) : Sat n L (a.put none v) := h
/-- What is known by the first is known by the second. -/
def Sub (L1 L : Env) : Prop := ∀ t v, lk L1 t = some v → lk L t = some v
theorem Sub.nil {L : Env} : Sub [] L := fun t v h => by simp [lk] at h
theorem Sub.cons {L1 L : Env} {t : Nat} {v : Value} (h : lk L t = some v) (hs : Sub L1 L) : Sub ((t, v) :: L1) L := by
  intro s u hu
  rcases lk_cons hu with ⟨rfl, rfl⟩ | ⟨_, hl⟩
  · exact h
  · exact hs s u hl
theorem Sub.refl (L : Env) : Sub L L := fun _ _ h => h
theorem Sat.sub {n : Nat} {L L1 : Env} {a : Act} (h : Sat n L a) (hs : Sub L1 L) : Sat n L1 a := ⟨h.size, h.defers, fun t v ht => h.val t v (hs t v ht)⟩

/-! ### memory -/
/-- A row of the call's own: elements of type e, sz cells each; the slice (A, n, c); its cells. ro: it is not written any more (bytes of a constant). -/
structure Row where
  e : TypeId
  sz : Nat
  A : Option Addr
  n : Nat
  c : Nat
  xs : List Value
  ro : Bool := false
def Row.lies (B : Nat) (w : World) (r : Row) : Prop :=
  match r.ro with
  | false => w.ownsRow B r.e r.sz (.slice r.A r.n r.c) r.n r.xs
  | true => ∃ g cur fr, r.A = some ⟨g, 0, none⟩ ∧ B ≤ g ∧ w.heap[g]? = some (.cells cur r.e fr) ∧ r.n ≤ maxLen ∧ r.n ≤ r.c ∧ r.xs.length = r.n * r.sz ∧ cur.toList.take (r.n * r.sz) = r.xs
def Row.apart (r r' : Row) : Prop := ∀ a a', r.A = some a → r'.A = some a' → a.block ≠ a'.block
theorem Row.apart_symm {r r' : Row} (h : r.apart r') : r'.apart r := fun a a' h1 h2 => Ne.symm (h a' a h2 h1)
/-- What one world's draws are to another's. -/
def Late (_ _ : World) : Prop := True
theorem Late.refl (w : World) : Late w w := trivial
theorem Late.trans {w0 w w1 : World} (_ : Late w0 w) (_ : Late w w1) : Late w0 w1 := trivial
theorem Late.of {w0 w : World} (_ : w0.drawn ≤ w.drawn) : Late w0 w := trivial
structure Hp (B : Nat) (w0 w : World) (R : List Row) : Prop where
  below : Below B w0 w
  base : B ≤ w.heap.size
  own : ∀ r ∈ R, r.lies B w
  apart : R.Pairwise Row.apart
  late : Late w0 w
theorem Hp.refl (w : World) : Hp w.heap.size w w [] := ⟨Below.refl _ _, Nat.le_refl _, fun _ h => (by cases h), .nil, Late.refl _⟩
theorem Hp.tail {B : Nat} {w0 w : World} {r : Row} {R : List Row} (h : Hp B w0 w (r :: R)) : Hp B w0 w R :=
  ⟨h.below, h.base, fun q hq => h.own q (.tail _ hq), (List.pairwise_cons.1 h.apart).2, h.late⟩
theorem Hp.right {B : Nat} {w0 w : World} {R' R : List Row} (h : Hp B w0 w (R' ++ R)) : Hp B w0 w R := by
  induction R' with
  | nil => exact h
  | cons r R' ih => exact ih h.tail
theorem Hp.perm {B : Nat} {w0 w : World} {R R' : List Row} (h : Hp B w0 w R) (hp : R.Perm R') : Hp B w0 w R' :=
  ⟨h.below, h.base, fun q hq => h.own q (hp.mem_iff.2 hq), hp.pairwise h.apart Row.apart_symm, h.late⟩
theorem Hp.sublist {B : Nat} {w0 w : World} {R R' : List Row} (h : Hp B w0 w R) (hs : R'.Sublist R) : Hp B w0 w R' :=
  ⟨h.below, h.base, fun q hq => h.own q (hs.subset hq), h.apart.sublist hs, h.late⟩
/-- Rows by their places: each place once. -/
theorem Hp.sel {B : Nat} {w0 w : World} {R : List Row} (h : Hp B w0 w R) (is : List Nat) (hn : is.Nodup) {R' : List Row} (hR : is.map (fun i => R[i]?) = R'.map some) : Hp B w0 w R' := by
  refine ⟨h.below, h.base, fun q hq => ?_, ?_, h.late⟩
  · have h1 : some q ∈ R'.map some := List.mem_map.2 ⟨q, hq, rfl⟩
    rw [← hR] at h1
    obtain ⟨i, _, hi⟩ := List.mem_map.1 h1
    exact h.own q (List.mem_of_getElem? hi)
  · have h1 : (R'.map some).Pairwise (fun x y => ∀ r r', x = some r → y = some r' → Row.apart r r') := by
      rw [← hR]
      refine List.pairwise_map.2 (hn.imp ?_)
      intro i j hne r r' hi hj
      rcases Nat.lt_or_gt_of_ne hne with hlt | hlt
      · exact List.pairwise_iff_getElem.1 h.apart i j (List.getElem?_eq_some_iff.1 hi).1 (List.getElem?_eq_some_iff.1 hj).1 hlt |> fun hh => by
          rw [(List.getElem?_eq_some_iff.1 hi).2, (List.getElem?_eq_some_iff.1 hj).2] at hh; exact hh
      · exact Row.apart_symm (List.pairwise_iff_getElem.1 h.apart j i (List.getElem?_eq_some_iff.1 hj).1 (List.getElem?_eq_some_iff.1 hi).1 hlt |> fun hh => by
          rw [(List.getElem?_eq_some_iff.1 hi).2, (List.getElem?_eq_some_iff.1 hj).2] at hh; exact hh)
    exact (List.pairwise_map.1 h1).imp fun hh => hh _ _ rfl rfl
/-- A draw is no matter. -/
theorem Hp.drawn {B : Nat} {w0 w : World} {R : List Row} (h : Hp B w0 w R) (k : Nat) (hk : w.drawn ≤ k) : Hp B w0 { w with drawn := k } R :=
  ⟨⟨h.below.os, h.below.tape, h.below.output, h.below.size, h.below.block⟩, h.base, fun r hr => by
    have := h.own r hr
    unfold Row.lies at *
    cases hro : r.ro <;> simp only [hro] at this ⊢ <;> exact this, h.apart, h.late.trans (Late.of hk)⟩
/-- A row that lies in a world where its block is as it was. -/
theorem Row.lies_of_block {B : Nat} {w w' : World} {r : Row} (h : r.lies B w) (hk : ∀ a, r.A = some a → w'.heap[a.block]? = w.heap[a.block]?) : r.lies B w' := by
  unfold Row.lies at *
  cases hro : r.ro with
  | false =>
    simp only [hro] at h ⊢
    refine ⟨h.1, ?_⟩
    rcases h.2 with hn | ⟨g, cap, cur, hv, hb, hg, rest⟩
    · exact .inl hn
    · refine .inr ⟨g, cap, cur, hv, hb, ?_, rest⟩
      have hA : r.A = some ⟨g, 0, none⟩ := by injection hv
      rw [hk _ hA]; exact hg
  | true =>
    simp only [hro] at h ⊢
    obtain ⟨g, cur, fr, hA, hb, hg, rest⟩ := h
    exact ⟨g, cur, fr, hA, hb, by rw [hk _ hA]; exact hg, rest⟩
theorem Row.lies_lt {B : Nat} {w : World} {r : Row} (h : r.lies B w) : ∀ a, r.A = some a → B ≤ a.block ∧ a.block < w.heap.size := by
  intro a ha
  unfold Row.lies at h
  cases hro : r.ro with
  | false =>
    simp only [hro] at h
    exact h.lt a.block (by simp [Value.ownBlock, ha])
  | true =>
    simp only [hro] at h
    obtain ⟨g, cur, fr, hA, hb, hg, _⟩ := h
    rw [hA] at ha
    obtain rfl := Option.some.inj ha
    exact ⟨hb, (Array.getElem?_eq_some_iff.1 hg).1⟩
/-- New blocks, made in a world that fits. -/
theorem Hp.join {B : Nat} {w0 w w' : World} {R Rn : List Row} (h : Hp B w0 w R) (h' : Hp w.heap.size w w' Rn) : Hp B w0 w' (Rn ++ R) := by
  refine ⟨h.below.trans (h'.below.mono h.base), Nat.le_trans h.base h'.base, fun r hr => ?_, ?_, h.late.trans h'.late⟩
  · rcases List.mem_append.1 hr with hr | hr
    · have h1 := h'.own r hr
      unfold Row.lies at *
      cases hro : r.ro with
      | false =>
        simp only [hro] at h1 ⊢
        refine ⟨h1.1, ?_⟩
        rcases h1.2 with hn | ⟨g, cap, cur, hv, hb, rest⟩
        · exact .inl hn
        · exact .inr ⟨g, cap, cur, hv, Nat.le_trans h.base hb, rest⟩
      | true =>
        simp only [hro] at h1 ⊢
        obtain ⟨g, cur, fr, hA, hb, rest⟩ := h1
        exact ⟨g, cur, fr, hA, Nat.le_trans h.base hb, rest⟩
    · have h1 := h.own r hr
      exact Row.lies_of_block h1 fun a ha => h'.below.block a.block (Row.lies_lt h1 a ha).2
  · refine List.pairwise_append.2 ⟨h'.apart, h.apart, fun r hr q hq a a' ha ha' => ?_⟩
    have h1 := (Row.lies_lt (h'.own r hr) a ha).1
    have h2 := (Row.lies_lt (h.own q hq) a' ha').2
    omega

/-! ### the count of draws never falls -/
theorem ask_late {α : Type} : ∀ (a : Ask α) (w : World), w.drawn ≤ (w.ask a).2.drawn
  | .done _, _ => Nat.le_refl _
  | .ask what range k, w => by
    unfold World.ask
    simp only
    split
    · exact ask_late _ _
    · exact Nat.le_trans (Nat.le_succ _) (ask_late _ { w with drawn := w.drawn + 1 })
theorem sys_late (w : World) (c : Sys) : w.drawn ≤ (w.sys c).2.drawn := by
  have h := ask_late (Kernel.perform c w.os) w
  unfold World.sys
  split
  · exact Nat.le_refl _
  · rename_i he
    rw [he] at h
    exact h
theorem ex_bind {ε α β : Type} {x : Except ε α} {f : α → Except ε β} {r : β} (h : Except.bind x f = .ok r) : ∃ a, f a = .ok r := by
  cases x with
  | error e => cases h
  | ok a => exact ⟨a, h⟩
theorem view_late {P : Program} {w : World} {b a : Addr} {u : TypeId} {v : Value} {c : Bool} {r : World × List Addr} (h : w.viewStore P b u a v c = .ok r) : r.1.drawn = w.drawn := by
  unfold World.viewStore at h
  simp only [bind, pure, Except.pure] at h
  repeat' first
    | (cases h; done)
    | (split at h)
    | (replace h := ex_bind h; cases h; rename_i h)
  all_goals (simp only [Except.ok.injEq] at h; rw [← h])
theorem far_late {P : Program} {w : World} {a : Addr} {v : Value} {b : Bool} {r : World × List Addr} (h : w.farStore P a v b = .ok r) : r.1.drawn = w.drawn := by
  unfold World.farStore at h
  split at h
  · split at h
    · rename_i hv
      simp only [Except.ok.injEq] at h
      rw [← h]
      exact view_late hv
    · cases h
  · cases h
theorem run_late {α : Type} {P : Program} : ∀ (m : Sem α) (w w' : World) (a : α), m.run P w = .ok a w' → w.drawn ≤ w'.drawn := by
  intro m
  induction m with
  | pure a => intro w w' b h; simp only [Sem.run, Result.ok.injEq] at h; rw [h.2]; exact Nat.le_refl _
  | load m a k ih =>
    intro w w' b h
    simp only [Sem.run] at h
    split at h
    · exact ih _ _ _ _ h
    · split at h
      · exact ih _ _ _ _ h
      · cases h
  | store m a v k ih =>
    intro w w' b h
    cases v <;> simp only [Sem.run] at h
    all_goals first
      | (cases h; done)
      | (split at h
         · split at h
           · cases h
           · have h1 := ih _ _ _ h
             exact h1
         · split at h
           · rename_i hf
             have h1 := ih _ _ _ h
             have h2 := far_late hf
             simp only at h2
             rw [h2] at h1
             exact h1
           · cases h)
  | new o k ih => intro w w' b h; have h1 := ih w.heap.size { w with heap := w.heap.push o } w' b h; exact h1
  | shape r k ih => intro w w' b h; exact ih _ _ _ _ h
  | freeze a n k ih =>
    intro w w' b h
    have := ih _ _ _ h
    have e : (w.freeze a n).drawn = w.drawn := by unfold World.freeze; split <;> rfl
    rwa [e] at this
  | frozen a k ih => intro w w' b h; exact ih _ _ _ _ h
  | getObj r k ih =>
    intro w w' b h
    simp only [Sem.run] at h
    split at h
    · cases h
    · exact ih _ _ _ _ h
    · cases h
  | setObj r o k ih =>
    intro w w' b h
    simp only [Sem.run] at h
    split at h
    · cases h
    · have h1 := ih _ _ _ h
      exact h1
    · cases h
  | choose q k ih =>
    intro w w' b h
    simp only [Sem.run] at h
    split at h
    · exact ih _ _ _ _ h
    · exact Nat.le_trans (Nat.le_succ _) (ih _ _ _ _ h)
  | sys c k ih =>
    intro w w' b h
    exact Nat.le_trans (sys_late w c) (ih _ _ _ _ h)
  | program k ih => intro w w' b h; exact ih _ _ _ _ h
  | mark m k ih => intro w w' b h; exact ih _ _ _ h
  | halt x => intro w w' b h; cases h
/-! ### what is read -/
/-- The slice (A, n, c) reads as these cells. -/
structure Rd (w : World) (A : Option Addr) (n c sz : Nat) (xs : List Value) : Prop where
  len : xs.length = n * sz
  max : n ≤ 9223372036854775807
  le : n ≤ c
  at_ : ∀ j v, xs[j]? = some v → ∃ a, A = some a ∧ w.cell? (a.add j) = some v
def RdC (B : Nat) (w0 : World) (R : List Row) (A : Option Addr) (n c sz : Nat) (xs : List Value) : Prop := ∀ w, Hp B w0 w R → Rd w A n c sz xs
theorem Rd.below {w w' : World} {A : Option Addr} {n c sz : Nat} {xs : List Value} (h : Rd w A n c sz xs) (hb : Below w.heap.size w w') : Rd w' A n c sz xs :=
  ⟨h.len, h.max, h.le, fun j v hv => by
    obtain ⟨a, ha, hc⟩ := h.at_ j v hv
    exact ⟨a, ha, (hb.cell (World.block_lt_of_cell? w _ hc)).trans hc⟩⟩
theorem Rd.c {w : World} {A : Option Addr} {n c sz : Nat} {xs : List Value} (h : Rd w A n c sz xs) (R : List Row) : RdC w.heap.size w R A n c sz xs := fun _ hw => h.below hw.below
theorem Row.rd {B : Nat} {w : World} {r : Row} (h : r.lies B w) : Rd w r.A r.n r.c r.sz r.xs := by
  unfold Row.lies at h
  cases hro : r.ro with
  | false =>
    simp only [hro] at h
    refine ⟨h.1, ?_, ?_, fun j v hv => ?_⟩
    · rcases h.2 with ⟨_, hn⟩ | ⟨g, cap, cur, _, _, _, h1, h2, _⟩
      · omega
      · unfold maxLen at h2; omega
    · rcases h.2 with ⟨_, hn⟩ | ⟨g, cap, cur, hv, _, _, h1, h2, _⟩
      · omega
      · simp only [Value.slice.injEq] at hv; omega
    · rcases h.2 with ⟨hv', hn⟩ | ⟨g, cap, cur, hv', _⟩
      · have : r.xs.length = 0 := by rw [h.1, hn]; omega
        rw [List.getElem?_eq_none (by omega)] at hv
        cases hv
      · have hA : r.A = some ⟨g, 0, none⟩ := by injection hv'
        exact ⟨_, hA, h.cells (g := g) (by simp [Value.ownBlock, hA]) j v hv⟩
  | true =>
    simp only [hro] at h
    obtain ⟨g, cur, fr, hA, _, hg, hm, hc, hl, ht⟩ := h
    unfold maxLen at hm
    refine ⟨hl, hm, hc, fun j v hv => ⟨_, hA, ?_⟩⟩
    have hadd : (⟨g, 0, none⟩ : Addr).add j = ⟨g, j, none⟩ := by unfold Addr.add; split <;> simp_all
    rw [hadd, cell_of_row w g j cur r.e fr hg]
    rw [← ht, List.getElem?_take] at hv
    split at hv
    · simpa using hv
    · cases hv
/-- Row number i reads as its cells. -/
theorem rdR {B : Nat} {w0 : World} {R : List Row} (i : Nat) {r : Row} (hi : R[i]? = some r) : RdC B w0 R r.A r.n r.c r.sz r.xs := fun _ hw => Row.rd (hw.own r (List.mem_of_getElem? hi))
theorem rdo {B : Nat} {w0 : World} {R : List Row} (i : Nat) {e sz : Nat} {A : Option Addr} {n c : Nat} {xs : List Value} (hi : R[i]? = some ⟨e, sz, A, n, c, xs, true⟩) : RdC B w0 R A n c sz xs := rdR i hi
theorem rdr {B : Nat} {w0 : World} {R : List Row} (i : Nat) {e sz : Nat} {A : Option Addr} {n c : Nat} {xs : List Value} {ro : Bool} (hi : R[i]? = some ⟨e, sz, A, n, c, xs, ro⟩) : RdC B w0 R A n c sz xs := rdR i hi
theorem RdC.right {B : Nat} {w0 : World} {R : List Row} {A : Option Addr} {n c sz : Nat} {xs : List Value} (h : RdC B w0 R A n c sz xs) (R' : List Row) : RdC B w0 (R' ++ R) A n c sz xs := fun w hw => h w hw.right
theorem RdC.tail {B : Nat} {w0 : World} {R : List Row} {A : Option Addr} {n c sz : Nat} {xs : List Value} (h : RdC B w0 R A n c sz xs) {r : Row} : RdC B w0 (r :: R) A n c sz xs := fun w hw => h w hw.tail

/-! ### code -/
structure PostC where
  nrm : Env → List Row → Prop
  ret : Env → List Row → Prop
  ext : Nat → Env → List Row → Prop
section
variable {P : Program} {n B : Nat} {w0 : World}
def PQ (n B : Nat) (w0 : World) (Q : PostC) : Exit → Act → World → Prop
  | .normal, a, w => ∃ L R, Sat n L a ∧ Hp B w0 w R ∧ Q.nrm L R
  | .ret, a, w => ∃ L R, Sat n L a ∧ Hp B w0 w R ∧ Q.ret L R
  | .exit i, a, w => ∃ L R, Sat n L a ∧ Hp B w0 w R ∧ Q.ext i L R
  | _, _, _ => False
def W (P : Program) (n B : Nat) (w0 : World) (c : Code) (Q : PostC) (L : Env) (R : List Row) : Prop :=
  ∀ a w, Sat n L a → Hp B w0 w R → c.wp P (PQ n B w0 Q) a w
theorem w_seq {x y : Code} {Q : PostC} {L : Env} {R : List Row} (h : W P n B w0 x { Q with nrm := fun L R => W P n B w0 y Q L R } L R) : W P n B w0 (.seq x y) Q L R := by
  intro a w hs hp
  refine wp_seq (wp_mono (h a w hs hp) ?_)
  intro e a' w' hq
  cases e with
  | normal => obtain ⟨L', R', hs', hp', hw⟩ := hq; exact hw a' w' hs' hp'
  | exit id => exact hq
  | goto l => exact hq
  | ret => exact hq
  | panic ch => exact hq
  | outgrown => exact hq
theorem w_block {id : Nat} {c : Code} {Q : PostC} {L : Env} {R : List Row} (h : W P n B w0 c { Q with ext := fun i L R => bif Nat.beq i id then Q.nrm L R else Q.ext i L R } L R) : W P n B w0 (.block id c) Q L R := by
  intro a w hs hp
  refine wp_block (wp_mono (h a w hs hp) ?_)
  intro e a' w' hq
  cases e with
  | normal => exact hq
  | exit i =>
    obtain ⟨L', R', hs', hp', hw⟩ := hq
    simp only [Exit.inBlock]
    by_cases hi : i = id
    · subst hi
      rw [if_pos rfl]
      exact ⟨L', R', hs', hp', by simpa using hw⟩
    · rw [if_neg hi]
      have hb : Nat.beq i id = false := by
        cases hb : Nat.beq i id with
        | true => exact absurd (Nat.eq_of_beq_eq_true hb) hi
        | false => rfl
      dsimp only at hw
      rw [hb] at hw
      exact ⟨L', R', hs', hp', hw⟩
  | goto l => exact hq
  | ret => exact hq
  | panic ch => exact hq
  | outgrown => exact hq
theorem w_exit {id : Nat} {Q : PostC} {L : Env} {R : List Row} (h : Q.ext id L R) : W P n B w0 (.exit id) Q L R :=
  fun _ _ hs hp => wp_exit ⟨L, R, hs, hp, h⟩
theorem w_ret {Q : PostC} {L : Env} {R : List Row} (h : Q.ret L R) : W P n B w0 .ret Q L R := fun _ _ hs hp => wp_ret ⟨L, R, hs, hp, h⟩
theorem w_skip {Q : PostC} {L : Env} {R : List Row} (h : Q.nrm L R) : W P n B w0 .skip Q L R := fun _ _ hs hp => wp_skip ⟨L, R, hs, hp, h⟩
theorem w_cond {c : Operand} {x y : Code} {Q : PostC} {L : Env} {R : List Row} {b : Bool} (hc : ev L c = some (.bool b)) (hx : b = true → W P n B w0 x Q L R) (hy : b = false → W P n B w0 y Q L R) : W P n B w0 (.cond c x y) Q L R :=
  fun a w hs hp => wp_cond_split (hs.ev hc) (fun hb => hx hb a w hs hp) (fun hb => hy hb a w hs hp)
theorem w_if {c : Operand} {x y : Code} {Q : PostC} {L : Env} {R : List Row} {p : Prop} [Decidable p] (hc : ev L c = some (.bool (decide p))) (hx : p → W P n B w0 x Q L R) (hy : ¬ p → W P n B w0 y Q L R) : W P n B w0 (.cond c x y) Q L R :=
  w_cond hc (fun h => hx (of_decide_eq_true h)) (fun h => hy (of_decide_eq_false h))
theorem w_true {c : Operand} {x y : Code} {Q : PostC} {L : Env} {R : List Row} (hc : ev L c = some (.bool true)) (hx : W P n B w0 x Q L R) : W P n B w0 (.cond c x y) Q L R := w_cond hc (fun _ => hx) (fun h => by cases h)
theorem w_false {c : Operand} {x y : Code} {Q : PostC} {L : Env} {R : List Row} (hc : ev L c = some (.bool false)) (hy : W P n B w0 y Q L R) : W P n B w0 (.cond c x y) Q L R := w_cond hc (fun h => by cases h) (fun _ => hy)
/-- Forget, or tell otherwise. -/
theorem w_sub {c : Code} {Q : PostC} {L L1 : Env} {R R1 : List Row} (hL : Sub L1 L) (hR : ∀ w, Hp B w0 w R → Hp B w0 w R1) (h : W P n B w0 c Q L1 R1) : W P n B w0 c Q L R :=
  fun a w hs hp => h a w (hs.sub hL) (hR w hp)
theorem w_mono {c : Code} {Q Q' : PostC} {L : Env} {R : List Row} (h : W P n B w0 c Q L R) (h1 : ∀ L R, Q.nrm L R → Q'.nrm L R) (h2 : ∀ L R, Q.ret L R → Q'.ret L R) (h3 : ∀ i L R, Q.ext i L R → Q'.ext i L R) : W P n B w0 c Q' L R := by
  intro a w hs hp
  refine wp_mono (h a w hs hp) ?_
  intro e a' w' hq
  cases e with
  | normal => obtain ⟨L', R', hs', hp', hw⟩ := hq; exact ⟨L', R', hs', hp', h1 _ _ hw⟩
  | exit id => obtain ⟨L', R', hs', hp', hw⟩ := hq; exact ⟨L', R', hs', hp', h3 _ _ _ hw⟩
  | goto l => exact hq
  | ret => obtain ⟨L', R', hs', hp', hw⟩ := hq; exact ⟨L', R', hs', hp', h2 _ _ hw⟩
  | panic ch => exact hq
  | outgrown => exact hq
/-- A state that fits one of a family: slots, rows, a fact. -/
def Fam {σ : Type} (B : Nat) (w0 : World) (Lx : σ → Env) (Rx : σ → List Row) (J : σ → Prop) (L : Env) (R : List Row) : Prop :=
  ∃ x, J x ∧ Sub (Lx x) L ∧ ∀ w, Hp B w0 w R → Hp B w0 w (Rx x)
theorem w_loop {σ : Type} {c : Code} {Q : PostC} {L : Env} {R : List Row} (Lx : σ → Env) (Rx : σ → List Row) (J : σ → Prop) (μ : σ → Nat)
    (h0 : Fam B w0 Lx Rx J L R)
    (round : ∀ x, J x → W P n B w0 c { Q with nrm := Fam B w0 Lx Rx (fun y => J y ∧ μ y < μ x) } (Lx x) (Rx x)) : W P n B w0 (.loop c) Q L R := by
  intro a w hs hp
  obtain ⟨x0, hJ0, hL0, hR0⟩ := h0
  refine wp_loop_ghost (fun k a w => ∃ x, μ x = k ∧ J x ∧ Sat n (Lx x) a ∧ Hp B w0 w (Rx x)) (μ x0) ⟨x0, rfl, hJ0, hs.sub hL0, hR0 w hp⟩ ?_
  rintro k a w ⟨x, rfl, hJ, hs, hp⟩
  refine wp_mono (round x hJ a w hs hp) ?_
  intro e a' w' hq
  cases e with
  | normal =>
    obtain ⟨L', R', hs', hp', y, ⟨hJy, hlt⟩, hLy, hRy⟩ := hq
    exact ⟨μ y, hlt, y, rfl, hJy, hs'.sub hLy, hRy _ hp'⟩
  | exit id => exact hq
  | goto l => exact hq
  | ret => exact hq
  | panic ch => exact hq
  | outgrown => exact hq
/-- The ways meet: behind x the state fits one of a family. -/
theorem w_join {σ : Type} {x y : Code} {Q : PostC} {L : Env} {R : List Row} (Lx : σ → Env) (Rx : σ → List Row) (J : σ → Prop)
    (hx : W P n B w0 x { Q with nrm := Fam B w0 Lx Rx J } L R) (hy : ∀ s, J s → W P n B w0 y Q (Lx s) (Rx s)) : W P n B w0 (.seq x y) Q L R :=
  w_seq (w_mono hx (fun _ _ ⟨s, hJ, hL, hR⟩ => w_sub hL hR (hy s hJ)) (fun _ _ h => h) (fun _ _ _ h => h))

/-! ### a function -/
def Ct (P : Program) (f : FuncId) (args : Array Value) (B : Nat) (w0 : World) (R : List Row) (Post : Value → List Row → Prop) : Prop :=
  ∀ w, Hp B w0 w R → Calls P f args w fun e w' => ∃ v R', e = .returned v ∧ Hp B w0 w' R' ∧ Post v R'
theorem Ct.mono {f : FuncId} {args : Array Value} {R : List Row} {Post Post' : Value → List Row → Prop} (h : Ct P f args B w0 R Post) (hp : ∀ v R', Post v R' → Post' v R') : Ct P f args B w0 R Post' :=
  fun w hw => (h w hw).mono fun _ _ ⟨v, R', he, hh, hv⟩ => ⟨v, R', he, hh, hp _ _ hv⟩
/-- A contract at a world of its own serves wherever. -/
theorem Ct.fresh {f : FuncId} {args : Array Value} {R : List Row} {Post : Value → List Row → Prop} (h : ∀ w, Hp B w0 w R → Ct P f args w.heap.size w [] Post) :
    Ct P f args B w0 R (fun v R' => ∃ Rn, R' = Rn ++ R ∧ Post v Rn) :=
  fun w hw => (h w hw w (Hp.refl w)).mono fun _ _ ⟨v, Rn, he, hh, hv⟩ => ⟨v, Rn ++ R, he, hw.join hh, Rn, rfl, hv⟩
theorem Ct.sub {f : FuncId} {args : Array Value} {R R1 : List Row} {Post : Value → List Row → Prop} (hR : ∀ w, Hp B w0 w R → Hp B w0 w R1) (h : Ct P f args B w0 R1 Post) : Ct P f args B w0 R Post :=
  fun w hw => h w (hR w hw)
/-- The slots as a call finds them. -/
def ini : Nat → List Value → Env
  | _, [] => []
  | k, v :: vs => (k, v) :: ini (k + 1) vs
theorem lk_ini : ∀ (vs : List Value) (k t : Nat) (v : Value), lk (ini k vs) t = some v → k ≤ t ∧ vs[t - k]? = some v := by
  intro vs
  induction vs with
  | nil => intro k t v h; simp [ini, lk] at h
  | cons u us ih =>
    intro k t v h
    rcases lk_cons h with ⟨rfl, rfl⟩ | ⟨_, hl⟩
    · simp
    · obtain ⟨h1, h2⟩ := ih (k + 1) t v hl
      refine ⟨by omega, ?_⟩
      have : t - k = (t - (k + 1)) + 1 := by omega
      rw [this]
      simpa using h2
theorem fn_of {f : FuncId} {fn : Func} {c : Code} {args : List Value} {R : List Row} {Post : Value → List Row → Prop} (hf : P.funcs[f]? = some fn) (hb : fn.body = some c) (hl : Nat.ble args.length fn.ntmps = true)
    {Rt : Env → Option Value} (hres : ∀ L a w v, Sat fn.ntmps L a → Rt L = some v → (results fn a.tmps).run P w = .ok v w)
    (h : W P fn.ntmps B w0 c ⟨fun L R' => ∃ v, Rt L = some v ∧ Post v R', fun L R' => ∃ v, Rt L = some v ∧ Post v R', fun _ _ _ => False⟩ (ini 0 args) R) : Ct P f args.toArray B w0 R Post := by
  intro w hw
  have hl' : args.length ≤ fn.ntmps := Nat.le_of_ble_eq_true hl
  refine calls_of_wp hf hb (wp_mono (h _ w ⟨by simp; omega, rfl, fun t v ht => ?_⟩ hw) ?_)
  · obtain ⟨_, h2⟩ := lk_ini args 0 t v ht
    simp only [Nat.sub_zero] at h2
    have hlt := (List.getElem?_eq_some_iff.1 h2).1
    rw [← h2]
    simp [Array.getElem?_append, hlt]
  · intro e a' w' hq
    cases e with
    | normal => obtain ⟨L', R', hs', hp', v, hv, hpost⟩ := hq; exact ⟨hs'.defers, v, hres _ _ _ _ hs' hv, v, R', rfl, hp', hpost⟩
    | ret => obtain ⟨L', R', hs', hp', v, hv, hpost⟩ := hq; exact ⟨hs'.defers, v, hres _ _ _ _ hs' hv, v, R', rfl, hp', hpost⟩
    | exit id => obtain ⟨_, _, _, _, h⟩ := hq; exact h.elim
    | goto l => exact hq
    | panic ch => exact hq.elim
    | outgrown => exact hq.elim
theorem fn0 {f : FuncId} {fn : Func} {c : Code} {args : List Value} {R : List Row} {Post : Value → List Row → Prop} (hf : P.funcs[f]? = some fn) (hb : fn.body = some c) (hr : fn.results = #[]) (hl : Nat.ble args.length fn.ntmps = true)
    (h : W P fn.ntmps B w0 c ⟨fun _ R' => Post (.tuple #[]) R', fun _ R' => Post (.tuple #[]) R', fun _ _ _ => False⟩ (ini 0 args) R) : Ct P f args.toArray B w0 R Post :=
  fn_of hf hb hl (Rt := fun _ => some (.tuple #[])) (fun _ _ _ v _ hv => by obtain rfl := Option.some.inj hv; exact results_none hr _ _ _) (by simpa using h)
theorem fn1 {f : FuncId} {fn : Func} {c : Code} {args : List Value} {R : List Row} {Post : Value → List Row → Prop} {r : Nat} (hf : P.funcs[f]? = some fn) (hb : fn.body = some c) (hr : fn.results = #[.tmp r]) (hl : Nat.ble args.length fn.ntmps = true)
    (h : W P fn.ntmps B w0 c ⟨fun L R' => ∃ v, lk L r = some v ∧ Post v R', fun L R' => ∃ v, lk L r = some v ∧ Post v R', fun _ _ _ => False⟩ (ini 0 args) R) : Ct P f args.toArray B w0 R Post :=
  fn_of hf hb hl (Rt := fun L => lk L r) (fun _ _ _ v hs hv => by rw [results_tmp hr, hs.getD hv]) h
theorem fn2 {f : FuncId} {fn : Func} {c : Code} {args : List Value} {R : List Row} {Post : Value → List Row → Prop} {r s : Nat} (hf : P.funcs[f]? = some fn) (hb : fn.body = some c) (hr : fn.results = #[.tmp r, .tmp s]) (hl : Nat.ble args.length fn.ntmps = true)
    (h : W P fn.ntmps B w0 c ⟨fun L R' => ∃ v u, lk L r = some v ∧ lk L s = some u ∧ Post (.tuple #[v, u]) R', fun L R' => ∃ v u, lk L r = some v ∧ lk L s = some u ∧ Post (.tuple #[v, u]) R', fun _ _ _ => False⟩ (ini 0 args) R) : Ct P f args.toArray B w0 R Post := by
  refine fn_of hf hb hl (Rt := fun L => (lk L r).bind fun v => (lk L s).map fun u => .tuple #[v, u]) (fun L a w v hs hv => ?_) (w_mono h ?_ ?_ (fun _ _ _ h => h))
  · obtain ⟨x, hx, hv⟩ := Option.bind_eq_some_iff.1 hv
    obtain ⟨u, hu, rfl⟩ := Option.map_eq_some_iff.1 hv
    rw [results_tmp2 hr, hs.getD hx, hs.getD hu]
  · rintro L R' ⟨v, u, hv, hu, hp⟩; exact ⟨_, by simp [hv, hu], hp⟩
  · rintro L R' ⟨v, u, hv, hu, hp⟩; exact ⟨_, by simp [hv, hu], hp⟩
theorem fn3 {f : FuncId} {fn : Func} {c : Code} {args : List Value} {R : List Row} {Post : Value → List Row → Prop} {r s t : Nat} (hf : P.funcs[f]? = some fn) (hb : fn.body = some c) (hr : fn.results = #[.tmp r, .tmp s, .tmp t]) (hl : Nat.ble args.length fn.ntmps = true)
    (h : W P fn.ntmps B w0 c ⟨fun L R' => ∃ v u x, lk L r = some v ∧ lk L s = some u ∧ lk L t = some x ∧ Post (.tuple #[v, u, x]) R', fun L R' => ∃ v u x, lk L r = some v ∧ lk L s = some u ∧ lk L t = some x ∧ Post (.tuple #[v, u, x]) R', fun _ _ _ => False⟩ (ini 0 args) R) : Ct P f args.toArray B w0 R Post := by
  refine fn_of hf hb hl (Rt := fun L => (lk L r).bind fun v => (lk L s).bind fun u => (lk L t).map fun x => .tuple #[v, u, x]) (fun L a w v hs hv => ?_) (w_mono h ?_ ?_ (fun _ _ _ h => h))
  · obtain ⟨x, hx, hv⟩ := Option.bind_eq_some_iff.1 hv
    obtain ⟨u, hu, hv⟩ := Option.bind_eq_some_iff.1 hv
    obtain ⟨y, hy, rfl⟩ := Option.map_eq_some_iff.1 hv
    simp [results, hr, hs.val r x hx, hs.val s u hu, hs.val t y hy]
  · rintro L R' ⟨v, u, x, hv, hu, hx, hp⟩; exact ⟨_, by simp [hv, hu, hx], hp⟩
  · rintro L R' ⟨v, u, x, hv, hu, hx, hp⟩; exact ⟨_, by simp [hv, hu, hx], hp⟩

/-! ### regions -/
def WR (P : Program) (n B : Nat) (w0 : World) (ops : Array Oper) (l : List Oper) (K : Env → List Row → Prop) (L : Env) (R : List Row) : Prop :=
  ∀ a w (Q : Exit → Act → World → Prop), Sat n L a → Hp B w0 w R → (∀ a' w' L' R', Sat n L' a' → Hp B w0 w' R' → K L' R' → Q .normal a' w') → wpList P ops Q l a w
theorem w_reg {id : Nat} {l : List Oper} {Q : PostC} {L : Env} {R : List Row} (h : WR P n B w0 l.toArray l Q.nrm L R) : W P n B w0 (.region id l.toArray false) Q L R :=
  fun a w hs hp => wp_region_lit (h a w _ hs hp fun _ _ L' R' hs' hp' hk => ⟨L', R', hs', hp', hk⟩)
variable {ops : Array Oper} {l : List Oper} {K : Env → List Row → Prop} {L : Env} {R : List Row} {op : Op} {ty : TypeId} {pos : String} {aft : Array Edge}
theorem wr_nil (h : K L R) : WR P n B w0 ops [] K L R := fun _ _ _ hs hp hq => wpList_nil (hq _ _ L R hs hp h)
/-- An operation that only computes or reads. -/
def Yl (P : Program) (n B : Nat) (w0 : World) (op : Op) (ty : TypeId) (L : Env) (R : List Row) (v : Value) : Prop :=
  ∀ (a : Act) (w : World) (o : Oper), o.op = op → o.type = ty → Sat n L a → Hp B w0 w R → (execOp a.eval o).run P w = .ok (.value v) w
/-- An operation that may turn memory. -/
def Ac (P : Program) (n B : Nat) (w0 : World) (op : Op) (ty : TypeId) (L : Env) (R : List Row) (Post : Value → List Row → Prop) : Prop :=
  ∀ (a : Act) (w : World) (o : Oper) (K : Act → World → Prop) (Q : Exit → Act → World → Prop), o.op = op → o.type = ty → Sat n L a → Hp B w0 w R → (∀ v w' R', Hp B w0 w' R' → Post v R' → K (a.put o.dst v) w') → o.wp P a w K Q
theorem wr_y {d : Nat} {v : Value} (hn : Nat.blt d n = true) (hy : Yl P n B w0 op ty L R v) (h : WR P n B w0 ops l K ((d, v) :: L) R) : WR P n B w0 ops ({ dst := some d, op := op, type := ty, pos := pos, after := aft, guard := none } :: l) K L R := by
  intro a w Q hs hp hq
  refine wpList_plain rfl fun K' hK' => ?_
  unfold Oper.wp
  rw [hy a w _ rfl rfl hs hp]
  exact hK' _ _ (h _ _ Q (hs.put hn v) hp hq)
theorem wr_a {d : Nat} {Post : Value → List Row → Prop} (hn : Nat.blt d n = true) (ha : Ac P n B w0 op ty L R Post) (h : ∀ v R', Post v R' → WR P n B w0 ops l K ((d, v) :: L) R') : WR P n B w0 ops ({ dst := some d, op := op, type := ty, pos := pos, after := aft, guard := none } :: l) K L R := by
  intro a w Q hs hp hq
  refine wpList_plain rfl fun K' hK' => ?_
  exact ha a w _ K' Q rfl rfl hs hp fun v w' R' hp' hv => hK' _ _ (h v R' hv _ _ Q (hs.put hn v) hp' hq)
theorem wr_n {Post : Value → List Row → Prop} (ha : Ac P n B w0 op ty L R Post) (h : ∀ v R', Post v R' → WR P n B w0 ops l K L R') : WR P n B w0 ops ({ dst := none, op := op, type := ty, pos := pos, after := aft, guard := none } :: l) K L R := by
  intro a w Q hs hp hq
  refine wpList_plain rfl fun K' hK' => ?_
  exact ha a w _ K' Q rfl rfl hs hp fun v w' R' hp' hv => hK' _ _ (h v R' hv _ _ Q hs hp' hq)
theorem yielded_of {j d : Nat} {b : Bool} {a : Act} (hs : Sat n L a) (hj : (ops[j]?).bind (·.dst) = some d) (hb : lk L d = some (.bool b)) : yielded ops a.tmps j = some b := by
  unfold yielded
  rw [hj]
  simp only [Option.bind_some]
  rw [hs.val d _ hb]
/-- The guard says yes. -/
theorem wr_yes {j d : Nat} {want : Bool} {dst : Option Nat} (hj : (ops[j]?).bind (·.dst) = some d) (hb : lk L d = some (.bool want)) (h : WR P n B w0 ops ({ dst := dst, op := op, type := ty, pos := pos, after := aft, guard := none } :: l) K L R) :
    WR P n B w0 ops ({ dst := dst, op := op, type := ty, pos := pos, after := aft, guard := some (j, want) } :: l) K L R := by
  intro a w Q hs hp hq
  have h1 := h a w Q hs hp hq
  have hy := yielded_of hs hj hb
  unfold wpList at h1 ⊢
  rw [if_pos (by simp [Region.wanted])] at h1
  rw [if_pos (by simp [Region.wanted, hy])]
  exact h1
/-- The guard says no. -/
theorem wr_no {j d e : Nat} {want b : Bool} (hj : (ops[j]?).bind (·.dst) = some d) (hb : lk L d = some (.bool b)) (hne : (b == want) = false) (hn : Nat.blt e n = true) (h : WR P n B w0 ops l K ((e, undef) :: L) R) :
    WR P n B w0 ops ({ dst := some e, op := op, type := ty, pos := pos, after := aft, guard := some (j, want) } :: l) K L R := by
  intro a w Q hs hp hq
  have hy := yielded_of hs hj hb
  unfold wpList
  have : Region.wanted { dst := some e, op := op, type := ty, pos := pos, after := aft, guard := some (j, want) } (yielded ops a.tmps) = false := by
    simp only [Region.wanted, hy]
    cases b <;> cases want <;> simp_all
  rw [this]
  simp only [Bool.false_eq_true, if_false]
  exact h _ _ Q (hs.put hn undef) hp hq
theorem wr_no' {j d : Nat} {want b : Bool} (hj : (ops[j]?).bind (·.dst) = some d) (hb : lk L d = some (.bool b)) (hne : (b == want) = false) (h : WR P n B w0 ops l K L R) :
    WR P n B w0 ops ({ dst := none, op := op, type := ty, pos := pos, after := aft, guard := some (j, want) } :: l) K L R := by
  intro a w Q hs hp hq
  have hy := yielded_of hs hj hb
  unfold wpList
  have : Region.wanted { dst := none, op := op, type := ty, pos := pos, after := aft, guard := some (j, want) } (yielded ops a.tmps) = false := by
    simp only [Region.wanted, hy]
    cases b <;> cases want <;> simp_all
  rw [this]
  simp only [Bool.false_eq_true, if_false]
  exact h _ _ Q hs hp hq
theorem yielded_undef {j d : Nat} {a : Act} (hs : Sat n L a) (hj : (ops[j]?).bind (·.dst) = some d) (hb : lk L d = some undef) : yielded ops a.tmps j = none := by
  unfold yielded
  rw [hj]
  simp only [Option.bind_some]
  rw [hs.val d _ hb]
  rfl
/-- The guard's own operation was passed over. -/
theorem wr_nou {j d e : Nat} {want : Bool} (hj : (ops[j]?).bind (·.dst) = some d) (hb : lk L d = some undef) (hn : Nat.blt e n = true) (h : WR P n B w0 ops l K ((e, undef) :: L) R) :
    WR P n B w0 ops ({ dst := some e, op := op, type := ty, pos := pos, after := aft, guard := some (j, want) } :: l) K L R := by
  intro a w Q hs hp hq
  have hy := yielded_undef hs hj hb
  unfold wpList
  have : Region.wanted { dst := some e, op := op, type := ty, pos := pos, after := aft, guard := some (j, want) } (yielded ops a.tmps) = false := by
    simp [Region.wanted, hy]
  rw [this]
  simp only [Bool.false_eq_true, if_false]
  exact h _ _ Q (hs.put hn undef) hp hq
theorem lk_shadow {d : Nat} {v : Value} (h : lk L d = some v) : Sub ((d, v) :: L) L := by
  intro t u hu
  rcases lk_cons hu with ⟨rfl, rfl⟩ | ⟨_, hl⟩
  · exact h
  · exact hl
/-- Two ways by a slot's truth: in each the slot holds it written out. -/
theorem wr_case (d : Nat) {p : Prop} [Decidable p] (hb : lk L d = some (.bool (decide p))) (ht : p → WR P n B w0 ops l K ((d, .bool true) :: L) R) (hf : ¬ p → WR P n B w0 ops l K ((d, .bool false) :: L) R) : WR P n B w0 ops l K L R := by
  intro a w Q hs hp hq
  by_cases h : p
  · exact ht h a w Q (hs.sub (lk_shadow (by rw [hb, decide_eq_true h]))) hp hq
  · exact hf h a w Q (hs.sub (lk_shadow (by rw [hb, decide_eq_false h]))) hp hq
theorem wr_sub {L1 : Env} {R1 : List Row} (hL : Sub L1 L) (hR : ∀ w, Hp B w0 w R → Hp B w0 w R1) (h : WR P n B w0 ops l K L1 R1) : WR P n B w0 ops l K L R :=
  fun a w Q hs hp hq => h a w Q (hs.sub hL) (hR w hp) hq
theorem wr_as {d : Nat} {u v : Value} (hu : u = v) (h : WR P n B w0 ops l K ((d, v) :: L) R) : WR P n B w0 ops l K ((d, u) :: L) R := by
  subst hu
  exact h
theorem wr_rows {R1 : List Row} (hR : R = R1) (h : WR P n B w0 ops l K L R1) : WR P n B w0 ops l K L R := by
  subst hR
  exact h
theorem wr_mono {K' : Env → List Row → Prop} (h : WR P n B w0 ops l K' L R) (hk : ∀ L R, K' L R → K L R) : WR P n B w0 ops l K L R :=
  fun a w Q hs hp hq => h a w Q hs hp fun a' w' L' R' hs' hp' hk' => hq a' w' L' R' hs' hp' (hk _ _ hk')
/-- The ways meet at a region's end. -/
theorem wr_join {σ : Type} (Lx : σ → Env) (Rx : σ → List Row) (J : σ → Prop) (h : WR P n B w0 ops l (Fam B w0 Lx Rx J) L R) (hk : ∀ s, J s → ∀ L R, Sub (Lx s) L → (∀ w, Hp B w0 w R → Hp B w0 w (Rx s)) → K L R) : WR P n B w0 ops l K L R :=
  wr_mono h fun L R ⟨s, hJ, hL, hR⟩ => hk s hJ L R hL hR
end
end Go.Eng
