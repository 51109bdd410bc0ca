/-
  Engine: loops over functions ('for x := range seq'), and functions that hold such a loop. Own work.
-/
import Derived.RangeFuncRecord
import Derived.RangeFuncSeq
import Derived.RangeFuncCalls
import Derived.RangeFuncKeeps
import Derived.RangeFuncBox
import Derived.Test.YtdfcnalkdlifiaaE8
namespace Go.Eng
open Go Go.RowKit
/-! ### memory: objects that are no cells -/
section
variable {B : Nat} {w0 w w' : World} {R R' : List Row}
theorem Hp.allocObj (h : Hp B w0 w R) (o : Obj) : Hp B w0 (w.alloc o) R :=
  h.join (Rn := []) ⟨(Below.refl _ _).alloc (Nat.le_refl _) _, by simp, fun _ hr => (by cases hr), .nil, Late.alloc _ _⟩
theorem Hp.putObj (h : Hp B w0 w R) {l : Nat} {o : Obj} (ho : w.heap[l]? = some o) (hn : notCells o = true) (o' : Obj) (hB : B ≤ l) (h0 : w0.heap.size ≤ l) : Hp B w0 (w.putObj l o') R := by
  refine ⟨h.below.trans ((Below.refl _ _).grown (grownBy_putObj' w l o') h.base fun k e => by cases e; exact hB), by rw [World.putObj_size]; exact h.base, fun r hr => ?_, h.apart, ⟨h.late.1, fun k q hk hc => ?_⟩⟩
  · refine Row.lies_of_block (h.own r hr) fun a ha => World.putObj_heap_other fun e => ?_
    obtain ⟨cs, e', fr, hc⟩ := Row.lies_cells (h.own r hr) ha
    rw [e, ho] at hc
    cases hc
    cases hn
  · rw [World.putObj_heap_other (fun e => by have := (Array.getElem?_eq_some_iff.1 hk).1; omega)]
    exact h.late.2 k q hk hc
theorem Hp.rebase (h : Hp B w0 w R) : Hp B w w R := ⟨Below.refl _ _, h.base, h.own, h.apart, Late.refl _⟩
theorem Hp.comp (h : Hp B w0 w R) (h' : Hp B w w' R') : Hp B w0 w' R' := ⟨h.below.trans h'.below, h'.base, h'.own, h'.apart, h.late.trans h'.late⟩
/-- What lay in the first world reads the same over a later base. -/
theorem Rd.cb {W : World} {A : Option Addr} {n c sz : Nat} {xs : List Value} (h : Rd w A n c sz xs) (hb : Below w.heap.size w W) (R : List Row) : RdC w.heap.size W R A n c sz xs :=
  fun _ hw => h.below (hb.trans hw.below)
end
/-! ### code that holds a loop over a function -/
def mark (D : Nat) : Deferred := { target := .collected D, args := #[] }
section
variable {P : Program} {n : Nd} {B : Nat} {w0 w00 : World} {F : Exit → Act → World → Prop} {L : Env} {R : List Row}
def V (P : Program) (n : Nd) (B : Nat) (w0 : World) (c : Code) (F : Exit → Act → World → Prop) (L : Env) (R : List Row) : Prop :=
  ∀ a w, Sat n L a → Hp B w0 w R → c.wpIn (NF n.rd) 0 P F a w
def FQ (F : Exit → Act → World → Prop) (n : Nd) (B : Nat) (w0 : World) : PostC :=
  ⟨fun L R => ∀ a w, Sat n L a → Hp B w0 w R → F .normal a w, fun L R => ∀ a w, Sat n L a → Hp B w0 w R → F .ret a w, fun i L R => ∀ a w, Sat n L a → Hp B w0 w R → F (.exit i) a w⟩
theorem v_w {c : Code} (h : W P n B w0 c (FQ F n B w0) L R) : V P n B w0 c F L R := fun a w hs hp => by
  refine wpIn_mono (h a w hs hp) fun e a' w' hq => ?_
  cases e with
  | normal => obtain ⟨L', R', hs', hp', hf⟩ := hq; exact hf a' w' hs' hp'
  | ret => obtain ⟨L', R', hs', hp', hf⟩ := hq; exact hf a' w' hs' hp'
  | exit i => obtain ⟨L', R', hs', hp', hf⟩ := hq; exact hf a' w' hs' hp'
  | goto l => exact hq.elim
  | panic ch => exact hq.elim
  | outgrown => exact hq.elim
theorem v_seqW {x y : Code} (h : W P n B w0 x { FQ F n B w0 with nrm := fun L R => V P n B w0 y F L R } L R) : V P n B w0 (.seq x y) F L R := fun a w hs hp => by
  refine wpIn_seq (wpIn_mono (h a w hs hp) fun e a' w' hq => ?_)
  cases e with
  | normal => obtain ⟨L', R', hs', hp', hf⟩ := hq; exact hf a' w' hs' hp'
  | ret => obtain ⟨L', R', hs', hp', hf⟩ := hq; exact hf a' w' hs' hp'
  | exit i => obtain ⟨L', R', hs', hp', hf⟩ := hq; exact hf a' w' hs' hp'
  | goto l => exact hq.elim
  | panic ch => exact hq.elim
  | outgrown => exact hq.elim
theorem v_seq {x y : Code} (h : V P n B w0 x (Exit.then (y.wpIn (NF n.rd) 0 P F) F) L R) : V P n B w0 (.seq x y) F L R := fun a w hs hp => wpIn_seq (h a w hs hp)
/-- What stands behind is met. -/
def VN (n : Nd) (B : Nat) (w0 : World) (F : Exit → Act → World → Prop) (L : Env) (R : List Row) : Prop := ∀ a w, Sat n L a → Hp B w0 w R → F .normal a w
theorem v_go {y : Code} {rd : Option Nat} (h : V P n B w0 y F L R) (hrd : n.rd = rd := by exact rfl) : VN n B w0 (Exit.then (y.wpIn (NF rd) 0 P F) F) L R := fun a w hs hp => by subst hrd; exact h a w hs hp
theorem v_goB {id : Nat} (h : VN n B w0 F L R) : VN n B w0 (Exit.inBlock id F) L R := h
theorem v_block {id : Nat} {c : Code} (h : V P n B w0 c (Exit.inBlock id F) L R) : V P n B w0 (.block id c) F L R := fun a w hs hp => wpIn_block (h a w hs hp)
/-- The slots of a round. -/
def prm : List Nat → List Value → Env → Env
  | p :: ps, v :: vs, L => prm ps vs ((p, v) :: L)
  | _, _, L => L
theorem Sat.prm : ∀ (pl : List Nat) (vs : List Value) {m : Nat} {ds : List Deferred} {rd : Option Nat} {L : Env} {t : Array Value}, pl.all (fun p => Nat.blt p m) = true → Sat ⟨m, ds, rd⟩ L { tmps := t, defers := ds } →
    Sat ⟨m, ds, rd⟩ (prm pl vs L) { tmps := (pl.zip vs).foldl (fun t (p, v) => t.setIfInBounds p v) t, defers := ds }
  | [], _, _, _, _, _, _, _, h => h
  | _ :: _, [], _, _, _, _, _, _, h => h
  | p :: pl, v :: vs, m, ds, rd, L, t, hp, h => by
    simp only [List.all_cons, Bool.and_eq_true] at hp
    have h1 : Sat ⟨m, ds, rd⟩ ((p, v) :: L) { tmps := t.setIfInBounds p v, defers := ds } := h.put (d := p) hp.1 v
    exact Sat.prm pl vs hp.2 h1
/-- An iterator without an end ahead: N elements, one by one; it reads what Rdy says. -/
def Iter (P : Program) (gf : Nat) (lb : Array Value) (Rdy : World → Prop) (N : Nat) (f : Nat → List Value) : Prop :=
  ∀ (l : Nat) (J : Nat → World → Prop) (W : World), (∀ k W, J k W → Rdy W) →
    (∀ k W, k < N → J k W → YieldAt Fence.wide 0 P l (f k).toArray W fun e W' => e = .returned (.bool true) ∧ J (k + 1) W') →
    J 0 W → CallsIn Fence.wide 0 P gf (#[.func (.yield l) #[] #[]] ++ lb) W fun e W' => (∃ v, e = .returned v) ∧ J N W'
/-- Where a function stands behind loops over functions: the base is a later world, in which the marks' blocks lie. -/
structure Gd (B : Nat) (w00 : World) (n : Nd) (w0 : World) : Prop where
  below : Below B w00 w0
  late : Late w00 w0
  nodup : n.ds.Nodup
  marks : ∀ d ∈ n.ds, ∃ D, d = mark D ∧ B ≤ D ∧ w00.heap.size ≤ D ∧ w0.heap[D]? = some (.deferred (some []))
theorem Gd.refl {m : Nat} : Gd B w00 (m : Nd) w00 := ⟨Below.refl _ _, Late.refl _, .nil, fun _ h => (by cases h)⟩
/-- The rounds of a loop, at whatever level: l the record, D the block of what is put off. -/
theorem rounds {σ : Type} {m : Nat} {pl : List Nat} {assign body : Code} {gf : Nat} {lb : Array Value} {Rdy : World → Prop} {N : Nat} {f : Nat → List Value} (it : Iter P gf lb Rdy N f)
    (hpl : pl.all (fun p => Nat.blt p m) = true) (hfl : ∀ k, (f k).length = pl.length) (Rx : Nat → σ → List Row) (J : Nat → σ → Prop) (hrdy : ∀ k s w, J k s → Hp B w0 w (Rx k s) → Rdy w)
    (round : ∀ l k s W2, k < N → J k s → Below B w0 W2 → W P ⟨m, [], some l⟩ B W2 assign ⟨fun L' R' => ∀ W3, Below B w0 W3 → W P ⟨m, [], some l⟩ B W3 body ⟨fun _ R'' => ∃ s', J (k + 1) s' ∧ ∀ W4 w, Hp B W4 w R'' → Hp B W4 w (Rx (k + 1) s'), fun _ _ => False, fun _ _ _ => False⟩ L' R', fun _ _ => False, fun _ _ _ => False⟩ (prm pl (f k) L) (Rx k s))
    {l : Nat} {rec : LoopState → Loop} {fn : FuncId} {t : Array Value} {Df : Nat} (hrec : rec = fun st => { state := st, pending := none, fn, tmps := t, params := pl.toArray, assign, body, defers := Df }) (ht : Sat ⟨m, [], some l⟩ L { tmps := t, defers := [] }) (hlB : B ≤ l) (hl0 : w0.heap.size ≤ l) (X : World → Prop)
    (hX : ∀ W W' R R', X W → Hp B w0 W R → Hp B W W' R' → X W') (hXp : ∀ W o, X W → X (W.putObj l o)) {W1 : World} (hL1 : W1.heap[l]? = some (.loop (rec .ready))) (hX1 : X W1) {s0 : σ} (hJ0 : J 0 s0) (hp1 : Hp B w0 W1 (Rx 0 s0)) :
    CallsIn Fence.wide 0 P gf (#[.func (.yield l) #[] #[]] ++ lb) W1 fun e W' => (∃ v, e = .returned v) ∧ ∃ s, J N s ∧ Hp B w0 W' (Rx N s) ∧ W'.heap[l]? = some (.loop (rec .ready)) ∧ X W' := by
  refine it l (fun k W => ∃ s, J k s ∧ Hp B w0 W (Rx k s) ∧ W.heap[l]? = some (.loop (rec .ready)) ∧ X W) W1 (fun k W ⟨s, hJ, hp, _⟩ => hrdy k s W hJ hp) ?_ ⟨s0, hJ0, hp1, hL1, hX1⟩
  rintro k W hk ⟨s, hJ, hp, hl, hx⟩
  have hy := run_yield (P := P) (args := (f k).toArray) hl (by rw [hrec]; simp [hfl k])
  have hs1 : Sat ⟨m, [], some l⟩ (prm pl (f k) L) { tmps := (rec .ready).params.zip (f k).toArray |>.foldl (fun t (p, v) => t.setIfInBounds p v) (rec .ready).tmps, defers := [] } := by
    rw [hrec]
    simpa using Sat.prm pl (f k) hpl ht
  refine ⟨fn, _, assign, body, by rw [hy, hrec], roundIn_of_wpIn trivial ?_⟩
  refine wpIn_mono ((round l k s W hk hJ hp.below) _ _ (by rw [hrec] at hs1; exact hs1) hp.rebase) ?_
  rintro e a1 Wa hq
  cases e with
  | normal =>
    obtain ⟨L', R', hs', hp', hb⟩ := hq
    have hla := hp'.late.2 _ _ hl rfl
    have hpa := hp.comp hp'
    have hlt := (Array.getElem?_eq_some_iff.1 hla).1
    have hbr := run_beginRound (P := P) hla (by rw [hrec])
    refine ⟨_, hbr, ?_⟩
    have hp2 : Hp B w0 (Wa.putObj l (.loop { rec .ready with state := .busy })) R' := hpa.putObj hla rfl _ hlB hl0
    have hl2 : (Wa.putObj l (.loop { rec .ready with state := .busy })).heap[l]? = some (.loop { rec .ready with state := .busy }) := World.putObj_heap_same hlt
    have hx2 := hXp _ (.loop { rec .ready with state := .busy }) (hX _ _ _ _ hx hp hp')
    refine wpIn_mono (hb _ hp2.below a1 _ hs' hp2.rebase) ?_
    rintro e a3 W3 hq
    cases e with
    | normal =>
      obtain ⟨L3, R3, _, hp3, s', hJ', hR'⟩ := hq
      have hl3 := hp3.late.2 _ _ hl2 rfl
      have her := run_endRound (P := P) none hl3
      refine ⟨_, _, her, rfl, s', hJ', ?_, ?_, ?_⟩
      · exact (hp2.comp (hR' _ _ hp3)).putObj hl3 rfl _ hlB hl0
      · rw [World.putObj_heap_same (Array.getElem?_eq_some_iff.1 hl3).1, hrec]
        rfl
      · exact hXp _ _ (hX _ _ _ _ hx2 hp2 hp3)
    | ret => obtain ⟨_, _, _, _, h⟩ := hq; exact h.elim
    | exit id => obtain ⟨_, _, _, _, h⟩ := hq; exact h.elim
    | goto t => exact hq.elim
    | panic ch => exact hq.elim
    | outgrown => exact hq.elim
  | ret => obtain ⟨_, _, _, _, h⟩ := hq; exact h.elim
  | exit id => obtain ⟨_, _, _, _, h⟩ := hq; exact h.elim
  | goto t => exact hq.elim
  | panic ch => exact hq.elim
  | outgrown => exact hq.elim
/-- An outermost loop over a function. -/
theorem v_range {σ : Type} {m : Nat} {ds : List Deferred} {g : Operand} {pl : List Nat} {assign body : Code} {gf : Nat} {lb : Array Value} {Rdy : World → Prop} {N : Nat} {f : Nat → List Value} (hg : ev L g = some (.func (.func gf) #[] lb))
    (hen : ∀ args w, (callFunc gf args).run P w = .ok (.enter gf args) w) (it : Iter P gf lb Rdy N f)
    (hpl : pl.all (fun p => Nat.blt p m) = true) (hfl : ∀ k, (f k).length = pl.length) (hG : Gd B w00 ⟨m, ds, none⟩ w0) (Rx : Nat → σ → List Row) (J : Nat → σ → Prop) (h0 : ∃ s, J 0 s ∧ ∀ w, Hp B w0 w R → Hp B w0 w (Rx 0 s)) (hrdy : ∀ k s w, J k s → Hp B w0 w (Rx k s) → Rdy w)
    (round : ∀ l k s W2, k < N → J k s → Below B w0 W2 → W P ⟨m, [], some l⟩ B W2 assign ⟨fun L' R' => ∀ W3, Below B w0 W3 → W P ⟨m, [], some l⟩ B W3 body ⟨fun _ R'' => ∃ s', J (k + 1) s' ∧ ∀ W4 w, Hp B W4 w R'' → Hp B W4 w (Rx (k + 1) s'), fun _ _ => False, fun _ _ _ => False⟩ L' R', fun _ _ => False, fun _ _ _ => False⟩ (prm pl (f k) L) (Rx k s))
    (after : ∀ W5 D s, J N s → Below B w0 W5 → Gd B w00 ⟨m, mark D :: ds, none⟩ W5 → VN ⟨m, mark D :: ds, none⟩ B W5 F L (Rx N s)) :
    V P ⟨m, ds, none⟩ B w0 (.rangeFunc g pl.toArray assign body) F L R := by
  intro a w hs hp
  refine wpIn_rangeFunc ?_
  intro fn _
  obtain ⟨rec, hrec⟩ : ∃ rec : LoopState → Loop, rec = fun st => { state := st, pending := none, fn, tmps := a.tmps, params := pl.toArray, assign, body, defers := w.heap.size } := ⟨_, rfl⟩
  obtain ⟨W1, hW1⟩ : ∃ W1, (w.alloc (.deferred (some []))).alloc (.loop (rec .ready)) = W1 := ⟨_, rfl⟩
  have hL1 : W1.heap[w.heap.size + 1]? = some (.loop (rec .ready)) := by
    rw [← hW1]; have := World.alloc_heap_new (w.alloc (.deferred (some []))) (.loop (rec .ready)); rwa [World.size_alloc] at this
  have hK1 : W1.heap[w.heap.size]? = some (.deferred (some [])) := by
    rw [← hW1]; exact (Below.heap_alloc _ _ _ (by simp)).trans (World.alloc_heap_new w _)
  obtain ⟨s0, hJ0, hR0⟩ := h0
  have hp1 : Hp B w0 W1 (Rx 0 s0) := by rw [← hW1]; exact ((hR0 w hp).allocObj _).allocObj _
  have hle0 : w0.heap.size ≤ w.heap.size := hp.below.size
  have hleB := hp.base
  refine ⟨w.heap.size + 1, [mark w.heap.size], W1, { target := .fn (.func gf) lb, args := #[.func (.yield (w.heap.size + 1)) #[] #[]] }, W1, gf, #[.func (.yield (w.heap.size + 1)) #[] #[]] ++ lb, W1, ?_, ?_, fun _ _ => trivial, ?_, fun h => (by cases h), ?_⟩
  · rw [← hW1, hrec]; exact run_enterLoop_outer _ _ _ _ _
  · simp only [resolve, hs.ev hg]
    simp [go_sem]
  · simp [invoke, go_sem, hen]
  · refine CallsIn.mono (rounds (w0 := w0) (m := m) (L := L) it hpl hfl Rx J hrdy round (l := w.heap.size + 1) (rec := rec) hrec ⟨hs.size, rfl, hs.val⟩ (by omega) (by omega) (fun W => W.heap[w.heap.size]? = some (.deferred (some [])) ∧ Late w W) ?_ ?_ hL1 ⟨hK1, ?_⟩ hJ0 hp1) ?_
    · rintro W W' R R' ⟨hk, hl⟩ _ h2
      exact ⟨h2.late.2 _ _ hk rfl, hl.trans h2.late⟩
    · rintro W o ⟨hk, hl⟩
      refine ⟨(World.putObj_heap_other (by omega)).trans hk, hl.1, fun k q hk' hc => ?_⟩
      rw [World.putObj_heap_other (fun e => by have := (Array.getElem?_eq_some_iff.1 hk').1; omega)]
      exact hl.2 k q hk' hc
    · rw [← hW1]
      exact (Late.alloc _ _).trans (Late.alloc _ _)
    · rintro e W2 ⟨⟨v, rfl⟩, s, hJ, hp2, hl2, hk2, hlate⟩
      have hel := run_endLoop (P := P) hl2 (by rw [hrec]; simp)
      have hpn : (rec .ready).pending = none := by rw [hrec]
      refine ⟨none, W2.putObj (w.heap.size + 1) (.loop { rec .ready with state := .exhausted }), hel.trans (congrArg (fun p => Result.ok p _) hpn), ?_⟩
      have hp3 : Hp B w0 (W2.putObj (w.heap.size + 1) (.loop { rec .ready with state := .exhausted })) (Rx N s) := hp2.putObj hl2 rfl _ (by omega) (by omega)
      have hk3 : (W2.putObj (w.heap.size + 1) (.loop { rec .ready with state := .exhausted })).heap[w.heap.size]? = some (.deferred (some [])) := (World.putObj_heap_other (by omega)).trans hk2
      have hlate3 : Late w (W2.putObj (w.heap.size + 1) (.loop { rec .ready with state := .exhausted })) := ⟨hlate.1, fun k q hk' hc => by
        rw [World.putObj_heap_other (fun e => by have := (Array.getElem?_eq_some_iff.1 hk').1; omega)]
        exact hlate.2 k q hk' hc⟩
      have hds := hs.defers
      refine after _ w.heap.size s hJ hp3.below ⟨hG.below.trans hp3.below, hG.late.trans hp3.late, List.nodup_cons.2 ⟨fun hmem => ?_, hG.nodup⟩, fun d hd => ?_⟩ _ _ ⟨hs.size, by simp only [List.singleton_append, hds], hs.val⟩ hp3.rebase
      · obtain ⟨D, he, _, _, hD⟩ := hG.marks _ hmem
        have h1 := (Array.getElem?_eq_some_iff.1 hD).1
        simp only [mark, Deferred.mk.injEq, Target.collected.injEq, and_true] at he
        omega
      · rcases List.mem_cons.1 hd with rfl | hd
        · exact ⟨_, rfl, by omega, by have := hG.below.size; omega, hk3⟩
        · obtain ⟨D, he, h1, h2, hD⟩ := hG.marks _ hd
          exact ⟨D, he, h1, h2, hp3.late.2 _ _ hD rfl⟩
theorem v_range0  {m : Nat} {ds : List Deferred} {g : Operand} {pl : List Nat} {assign body : Code} {gf : Nat} {lb : Array Value} {Rdy : World → Prop} {N : Nat} {f : Nat → List Value} (hg : ev L g = some (.func (.func gf) #[] lb))
    (hen : ∀ args w, (callFunc gf args).run P w = .ok (.enter gf args) w) (it : Iter P gf lb Rdy N f)
    (hpl : pl.all (fun p => Nat.blt p m) = true) (hfl : ∀ k, (f k).length = pl.length) (hG : Gd B w00 ⟨m, ds, none⟩ w0) (Rx : Nat → List Row) (J : Nat → Prop)
    (h0 : J 0  ∧ ∀ w, Hp B w0 w R → Hp B w0 w (Rx 0 )) (hrdy : ∀ k  w, J k  → Hp B w0 w (Rx k ) → Rdy w)
    (round : ∀ l k  W2, k < N → J k  → Below B w0 W2 → W P ⟨m, [], some l⟩ B W2 assign ⟨fun L' R' => ∀ W3, Below B w0 W3 → W P ⟨m, [], some l⟩ B W3 body ⟨fun _ R'' => J (k + 1)  ∧ ∀ W4 w, Hp B W4 w R'' → Hp B W4 w (Rx (k + 1) ), fun _ _ => False, fun _ _ _ => False⟩ L' R', fun _ _ => False, fun _ _ _ => False⟩ (prm pl (f k) L) (Rx k ))
    (after : ∀ W5 D , J N  → Below B w0 W5 → Gd B w00 ⟨m, mark D :: ds, none⟩ W5 → VN ⟨m, mark D :: ds, none⟩ B W5 F L (Rx N )) :
    V P ⟨m, ds, none⟩ B w0 (.rangeFunc g pl.toArray assign body) F L R := by
  obtain ⟨h1, h2⟩ := h0
  refine v_range (σ := Unit) hg hen it hpl hfl hG (fun k p => Rx k ) (fun k p => J k ) ⟨(), h1, h2⟩ (fun k p => hrdy k ) (fun l k p W2 hk hp hb => w_mono (round l k  W2 hk hp hb) ?_ (fun _ _ h => h) (fun _ _ _ h => h)) (fun W5 D p => after W5 D )
  intro L' R' h W3 hb3
  refine w_mono (h W3 hb3) ?_ (fun _ _ h => h) (fun _ _ _ h => h)
  rintro _ R'' ⟨g1, g2⟩
  exact ⟨(), g1, g2⟩
theorem v_range1 {σ0 : Type} {m : Nat} {ds : List Deferred} {g : Operand} {pl : List Nat} {assign body : Code} {gf : Nat} {lb : Array Value} {Rdy : World → Prop} {N : Nat} {f : Nat → List Value} (hg : ev L g = some (.func (.func gf) #[] lb))
    (hen : ∀ args w, (callFunc gf args).run P w = .ok (.enter gf args) w) (it : Iter P gf lb Rdy N f)
    (hpl : pl.all (fun p => Nat.blt p m) = true) (hfl : ∀ k, (f k).length = pl.length) (hG : Gd B w00 ⟨m, ds, none⟩ w0) (Rx : Nat → σ0 → List Row) (J : Nat → σ0 → Prop)
    (h0 : ∃ x0, J 0 x0 ∧ ∀ w, Hp B w0 w R → Hp B w0 w (Rx 0 x0)) (hrdy : ∀ k x0 w, J k x0 → Hp B w0 w (Rx k x0) → Rdy w)
    (round : ∀ l k x0 W2, k < N → J k x0 → Below B w0 W2 → W P ⟨m, [], some l⟩ B W2 assign ⟨fun L' R' => ∀ W3, Below B w0 W3 → W P ⟨m, [], some l⟩ B W3 body ⟨fun _ R'' => ∃ y0, J (k + 1) y0 ∧ ∀ W4 w, Hp B W4 w R'' → Hp B W4 w (Rx (k + 1) y0), fun _ _ => False, fun _ _ _ => False⟩ L' R', fun _ _ => False, fun _ _ _ => False⟩ (prm pl (f k) L) (Rx k x0))
    (after : ∀ W5 D x0, J N x0 → Below B w0 W5 → Gd B w00 ⟨m, mark D :: ds, none⟩ W5 → VN ⟨m, mark D :: ds, none⟩ B W5 F L (Rx N x0)) :
    V P ⟨m, ds, none⟩ B w0 (.rangeFunc g pl.toArray assign body) F L R := by
  obtain ⟨x0, h1, h2⟩ := h0
  refine v_range (σ := σ0) hg hen it hpl hfl hG (fun k p => Rx k p) (fun k p => J k p) ⟨x0, h1, h2⟩ (fun k p => hrdy k p) (fun l k p W2 hk hp hb => w_mono (round l k p W2 hk hp hb) ?_ (fun _ _ h => h) (fun _ _ _ h => h)) (fun W5 D p => after W5 D p)
  intro L' R' h W3 hb3
  refine w_mono (h W3 hb3) ?_ (fun _ _ h => h) (fun _ _ _ h => h)
  rintro _ R'' ⟨y0, g1, g2⟩
  exact ⟨y0, g1, g2⟩
theorem v_range2 {σ0 σ1 : Type} {m : Nat} {ds : List Deferred} {g : Operand} {pl : List Nat} {assign body : Code} {gf : Nat} {lb : Array Value} {Rdy : World → Prop} {N : Nat} {f : Nat → List Value} (hg : ev L g = some (.func (.func gf) #[] lb))
    (hen : ∀ args w, (callFunc gf args).run P w = .ok (.enter gf args) w) (it : Iter P gf lb Rdy N f)
    (hpl : pl.all (fun p => Nat.blt p m) = true) (hfl : ∀ k, (f k).length = pl.length) (hG : Gd B w00 ⟨m, ds, none⟩ w0) (Rx : Nat → σ0 → σ1 → List Row) (J : Nat → σ0 → σ1 → Prop)
    (h0 : ∃ x0 x1, J 0 x0 x1 ∧ ∀ w, Hp B w0 w R → Hp B w0 w (Rx 0 x0 x1)) (hrdy : ∀ k x0 x1 w, J k x0 x1 → Hp B w0 w (Rx k x0 x1) → Rdy w)
    (round : ∀ l k x0 x1 W2, k < N → J k x0 x1 → Below B w0 W2 → W P ⟨m, [], some l⟩ B W2 assign ⟨fun L' R' => ∀ W3, Below B w0 W3 → W P ⟨m, [], some l⟩ B W3 body ⟨fun _ R'' => ∃ y0 y1, J (k + 1) y0 y1 ∧ ∀ W4 w, Hp B W4 w R'' → Hp B W4 w (Rx (k + 1) y0 y1), fun _ _ => False, fun _ _ _ => False⟩ L' R', fun _ _ => False, fun _ _ _ => False⟩ (prm pl (f k) L) (Rx k x0 x1))
    (after : ∀ W5 D x0 x1, J N x0 x1 → Below B w0 W5 → Gd B w00 ⟨m, mark D :: ds, none⟩ W5 → VN ⟨m, mark D :: ds, none⟩ B W5 F L (Rx N x0 x1)) :
    V P ⟨m, ds, none⟩ B w0 (.rangeFunc g pl.toArray assign body) F L R := by
  obtain ⟨x0, x1, h1, h2⟩ := h0
  refine v_range (σ := σ0 × σ1) hg hen it hpl hfl hG (fun k p => Rx k p.1 p.2) (fun k p => J k p.1 p.2) ⟨(x0, x1), h1, h2⟩ (fun k p => hrdy k p.1 p.2) (fun l k p W2 hk hp hb => w_mono (round l k p.1 p.2 W2 hk hp hb) ?_ (fun _ _ h => h) (fun _ _ _ h => h)) (fun W5 D p => after W5 D p.1 p.2)
  intro L' R' h W3 hb3
  refine w_mono (h W3 hb3) ?_ (fun _ _ h => h) (fun _ _ _ h => h)
  rintro _ R'' ⟨y0, y1, g1, g2⟩
  exact ⟨(y0, y1), g1, g2⟩
theorem v_range3 {σ0 σ1 σ2 : Type} {m : Nat} {ds : List Deferred} {g : Operand} {pl : List Nat} {assign body : Code} {gf : Nat} {lb : Array Value} {Rdy : World → Prop} {N : Nat} {f : Nat → List Value} (hg : ev L g = some (.func (.func gf) #[] lb))
    (hen : ∀ args w, (callFunc gf args).run P w = .ok (.enter gf args) w) (it : Iter P gf lb Rdy N f)
    (hpl : pl.all (fun p => Nat.blt p m) = true) (hfl : ∀ k, (f k).length = pl.length) (hG : Gd B w00 ⟨m, ds, none⟩ w0) (Rx : Nat → σ0 → σ1 → σ2 → List Row) (J : Nat → σ0 → σ1 → σ2 → Prop)
    (h0 : ∃ x0 x1 x2, J 0 x0 x1 x2 ∧ ∀ w, Hp B w0 w R → Hp B w0 w (Rx 0 x0 x1 x2)) (hrdy : ∀ k x0 x1 x2 w, J k x0 x1 x2 → Hp B w0 w (Rx k x0 x1 x2) → Rdy w)
    (round : ∀ l k x0 x1 x2 W2, k < N → J k x0 x1 x2 → Below B w0 W2 → W P ⟨m, [], some l⟩ B W2 assign ⟨fun L' R' => ∀ W3, Below B w0 W3 → W P ⟨m, [], some l⟩ B W3 body ⟨fun _ R'' => ∃ y0 y1 y2, J (k + 1) y0 y1 y2 ∧ ∀ W4 w, Hp B W4 w R'' → Hp B W4 w (Rx (k + 1) y0 y1 y2), fun _ _ => False, fun _ _ _ => False⟩ L' R', fun _ _ => False, fun _ _ _ => False⟩ (prm pl (f k) L) (Rx k x0 x1 x2))
    (after : ∀ W5 D x0 x1 x2, J N x0 x1 x2 → Below B w0 W5 → Gd B w00 ⟨m, mark D :: ds, none⟩ W5 → VN ⟨m, mark D :: ds, none⟩ B W5 F L (Rx N x0 x1 x2)) :
    V P ⟨m, ds, none⟩ B w0 (.rangeFunc g pl.toArray assign body) F L R := by
  obtain ⟨x0, x1, x2, h1, h2⟩ := h0
  refine v_range (σ := σ0 × σ1 × σ2) hg hen it hpl hfl hG (fun k p => Rx k p.1 p.2.1 p.2.2) (fun k p => J k p.1 p.2.1 p.2.2) ⟨(x0, x1, x2), h1, h2⟩ (fun k p => hrdy k p.1 p.2.1 p.2.2) (fun l k p W2 hk hp hb => w_mono (round l k p.1 p.2.1 p.2.2 W2 hk hp hb) ?_ (fun _ _ h => h) (fun _ _ _ h => h)) (fun W5 D p => after W5 D p.1 p.2.1 p.2.2)
  intro L' R' h W3 hb3
  refine w_mono (h W3 hb3) ?_ (fun _ _ h => h) (fun _ _ _ h => h)
  rintro _ R'' ⟨y0, y1, y2, g1, g2⟩
  exact ⟨(y0, y1, y2), g1, g2⟩
theorem v_range4 {σ0 σ1 σ2 σ3 : Type} {m : Nat} {ds : List Deferred} {g : Operand} {pl : List Nat} {assign body : Code} {gf : Nat} {lb : Array Value} {Rdy : World → Prop} {N : Nat} {f : Nat → List Value} (hg : ev L g = some (.func (.func gf) #[] lb))
    (hen : ∀ args w, (callFunc gf args).run P w = .ok (.enter gf args) w) (it : Iter P gf lb Rdy N f)
    (hpl : pl.all (fun p => Nat.blt p m) = true) (hfl : ∀ k, (f k).length = pl.length) (hG : Gd B w00 ⟨m, ds, none⟩ w0) (Rx : Nat → σ0 → σ1 → σ2 → σ3 → List Row) (J : Nat → σ0 → σ1 → σ2 → σ3 → Prop)
    (h0 : ∃ x0 x1 x2 x3, J 0 x0 x1 x2 x3 ∧ ∀ w, Hp B w0 w R → Hp B w0 w (Rx 0 x0 x1 x2 x3)) (hrdy : ∀ k x0 x1 x2 x3 w, J k x0 x1 x2 x3 → Hp B w0 w (Rx k x0 x1 x2 x3) → Rdy w)
    (round : ∀ l k x0 x1 x2 x3 W2, k < N → J k x0 x1 x2 x3 → Below B w0 W2 → W P ⟨m, [], some l⟩ B W2 assign ⟨fun L' R' => ∀ W3, Below B w0 W3 → W P ⟨m, [], some l⟩ B W3 body ⟨fun _ R'' => ∃ y0 y1 y2 y3, J (k + 1) y0 y1 y2 y3 ∧ ∀ W4 w, Hp B W4 w R'' → Hp B W4 w (Rx (k + 1) y0 y1 y2 y3), fun _ _ => False, fun _ _ _ => False⟩ L' R', fun _ _ => False, fun _ _ _ => False⟩ (prm pl (f k) L) (Rx k x0 x1 x2 x3))
    (after : ∀ W5 D x0 x1 x2 x3, J N x0 x1 x2 x3 → Below B w0 W5 → Gd B w00 ⟨m, mark D :: ds, none⟩ W5 → VN ⟨m, mark D :: ds, none⟩ B W5 F L (Rx N x0 x1 x2 x3)) :
    V P ⟨m, ds, none⟩ B w0 (.rangeFunc g pl.toArray assign body) F L R := by
  obtain ⟨x0, x1, x2, x3, h1, h2⟩ := h0
  refine v_range (σ := σ0 × σ1 × σ2 × σ3) hg hen it hpl hfl hG (fun k p => Rx k p.1 p.2.1 p.2.2.1 p.2.2.2) (fun k p => J k p.1 p.2.1 p.2.2.1 p.2.2.2) ⟨(x0, x1, x2, x3), h1, h2⟩ (fun k p => hrdy k p.1 p.2.1 p.2.2.1 p.2.2.2) (fun l k p W2 hk hp hb => w_mono (round l k p.1 p.2.1 p.2.2.1 p.2.2.2 W2 hk hp hb) ?_ (fun _ _ h => h) (fun _ _ _ h => h)) (fun W5 D p => after W5 D p.1 p.2.1 p.2.2.1 p.2.2.2)
  intro L' R' h W3 hb3
  refine w_mono (h W3 hb3) ?_ (fun _ _ h => h) (fun _ _ _ h => h)
  rintro _ R'' ⟨y0, y1, y2, y3, g1, g2⟩
  exact ⟨(y0, y1, y2, y3), g1, g2⟩
theorem v_range5 {σ0 σ1 σ2 σ3 σ4 : Type} {m : Nat} {ds : List Deferred} {g : Operand} {pl : List Nat} {assign body : Code} {gf : Nat} {lb : Array Value} {Rdy : World → Prop} {N : Nat} {f : Nat → List Value} (hg : ev L g = some (.func (.func gf) #[] lb))
    (hen : ∀ args w, (callFunc gf args).run P w = .ok (.enter gf args) w) (it : Iter P gf lb Rdy N f)
    (hpl : pl.all (fun p => Nat.blt p m) = true) (hfl : ∀ k, (f k).length = pl.length) (hG : Gd B w00 ⟨m, ds, none⟩ w0) (Rx : Nat → σ0 → σ1 → σ2 → σ3 → σ4 → List Row) (J : Nat → σ0 → σ1 → σ2 → σ3 → σ4 → Prop)
    (h0 : ∃ x0 x1 x2 x3 x4, J 0 x0 x1 x2 x3 x4 ∧ ∀ w, Hp B w0 w R → Hp B w0 w (Rx 0 x0 x1 x2 x3 x4)) (hrdy : ∀ k x0 x1 x2 x3 x4 w, J k x0 x1 x2 x3 x4 → Hp B w0 w (Rx k x0 x1 x2 x3 x4) → Rdy w)
    (round : ∀ l k x0 x1 x2 x3 x4 W2, k < N → J k x0 x1 x2 x3 x4 → Below B w0 W2 → W P ⟨m, [], some l⟩ B W2 assign ⟨fun L' R' => ∀ W3, Below B w0 W3 → W P ⟨m, [], some l⟩ B W3 body ⟨fun _ R'' => ∃ y0 y1 y2 y3 y4, J (k + 1) y0 y1 y2 y3 y4 ∧ ∀ W4 w, Hp B W4 w R'' → Hp B W4 w (Rx (k + 1) y0 y1 y2 y3 y4), fun _ _ => False, fun _ _ _ => False⟩ L' R', fun _ _ => False, fun _ _ _ => False⟩ (prm pl (f k) L) (Rx k x0 x1 x2 x3 x4))
    (after : ∀ W5 D x0 x1 x2 x3 x4, J N x0 x1 x2 x3 x4 → Below B w0 W5 → Gd B w00 ⟨m, mark D :: ds, none⟩ W5 → VN ⟨m, mark D :: ds, none⟩ B W5 F L (Rx N x0 x1 x2 x3 x4)) :
    V P ⟨m, ds, none⟩ B w0 (.rangeFunc g pl.toArray assign body) F L R := by
  obtain ⟨x0, x1, x2, x3, x4, h1, h2⟩ := h0
  refine v_range (σ := σ0 × σ1 × σ2 × σ3 × σ4) hg hen it hpl hfl hG (fun k p => Rx k p.1 p.2.1 p.2.2.1 p.2.2.2.1 p.2.2.2.2) (fun k p => J k p.1 p.2.1 p.2.2.1 p.2.2.2.1 p.2.2.2.2) ⟨(x0, x1, x2, x3, x4), h1, h2⟩ (fun k p => hrdy k p.1 p.2.1 p.2.2.1 p.2.2.2.1 p.2.2.2.2) (fun l k p W2 hk hp hb => w_mono (round l k p.1 p.2.1 p.2.2.1 p.2.2.2.1 p.2.2.2.2 W2 hk hp hb) ?_ (fun _ _ h => h) (fun _ _ _ h => h)) (fun W5 D p => after W5 D p.1 p.2.1 p.2.2.1 p.2.2.2.1 p.2.2.2.2)
  intro L' R' h W3 hb3
  refine w_mono (h W3 hb3) ?_ (fun _ _ h => h) (fun _ _ _ h => h)
  rintro _ R'' ⟨y0, y1, y2, y3, y4, g1, g2⟩
  exact ⟨(y0, y1, y2, y3, y4), g1, g2⟩
/-! ### a function that holds such loops -/
def Fin (P : Program) (fn : Func) (B : Nat) (w00 : World) (Post : Value → List Row → Prop) : Exit → Act → World → Prop :=
  bodyPostM Fence.wide 0 P fn fun e w' => ∃ v R', e = .returned v ∧ Hp B w00 w' R' ∧ Post v R'
theorem leaves_marks {fn : Func} {Post : Value → List Row → Prop} {tmps : Array Value} {v : Value} {w0 : World} (hB : Below B w00 w0) (hL : Late w00 w0) : ∀ (ds : List Deferred) (w : World), ds.Nodup → (∀ d ∈ ds, ∃ D, d = mark D ∧ B ≤ D ∧ w00.heap.size ≤ D ∧ w.heap[D]? = some (.deferred (some []))) → Hp B w00 w R → (∀ w, (results fn tmps).run P w = .ok v w) → Post v R →
    LeavesInM Fence.wide 0 P fn tmps (fun e w' => ∃ v R', e = .returned v ∧ Hp B w00 w' R' ∧ Post v R') ds .returning w
  | [], w, _, _, hp, hr, hv => ⟨v, hr w, v, R, rfl, hp, hv⟩
  | d :: ds, w, hn, hm, hp, hr, hv => by
    obtain ⟨D, rfl, h1, h2, hD⟩ := hm _ (.head _)
    refine ⟨by simp, .inl ⟨D, _, rfl, run_takeDeferred hD, leaves_marks hB hL ds _ (List.nodup_cons.1 hn).2 (fun d hd => ?_) (hp.putObj hD rfl _ h1 h2) hr hv⟩⟩
    obtain ⟨D', he, h1', h2', hD'⟩ := hm d (.tail _ hd)
    refine ⟨D', he, h1', h2', (World.putObj_heap_other fun e => ?_).trans hD'⟩
    subst e
    subst he
    exact (List.nodup_cons.1 hn).1 hd
theorem fin_of {fn : Func} {Post : Value → List Row → Prop} {v : Value} (hG : Gd B w00 n w0) (hres : ∀ a w, Sat n L a → (results fn a.tmps).run P w = .ok v w) (hv : Post v R) : ∀ a w, Sat n L a → Hp B w0 w R → Fin P fn B w00 Post .ret a w ∧ Fin P fn B w00 Post .normal a w := by
  intro a w hs hp
  have hp' : Hp B w00 w R := ⟨hG.below.trans hp.below, hp.base, hp.own, hp.apart, hG.late.trans hp.late⟩
  have h := leaves_marks (P := P) (fn := fn) (Post := Post) (tmps := a.tmps) (v := v) hG.below hG.late n.ds w hG.nodup (fun d hd => by
    obtain ⟨D, he, h1, h2, hD⟩ := hG.marks d hd
    exact ⟨D, he, h1, h2, hp.late.2 _ _ hD rfl⟩) hp' (fun w => hres a w hs) hv
  rw [← hs.defers] at h
  exact ⟨h, h⟩
theorem fin0 {fn : Func} {Post : Value → List Row → Prop} (hr : fn.results = #[]) (hG : Gd B w00 n w0) (h : Post (.tuple #[]) R) : ∀ a w, Sat n L a → Hp B w0 w R → Fin P fn B w00 Post .ret a w :=
  fun a w hs hp => (fin_of hG (fun _ _ _ => results_none hr _ _ _) h a w hs hp).1
theorem fin0n {fn : Func} {Post : Value → List Row → Prop} (hr : fn.results = #[]) (hG : Gd B w00 n w0) (h : Post (.tuple #[]) R) : ∀ a w, Sat n L a → Hp B w0 w R → Fin P fn B w00 Post .normal a w :=
  fun a w hs hp => (fin_of hG (fun _ _ _ => results_none hr _ _ _) h a w hs hp).2
theorem fin1 {fn : Func} {Post : Value → List Row → Prop} {r : Nat} (hr : fn.results = #[.tmp r]) (hG : Gd B w00 n w0) (h : ∃ v, lk L r = some v ∧ Post v R) : ∀ a w, Sat n L a → Hp B w0 w R → Fin P fn B w00 Post .ret a w := by
  obtain ⟨v, hv, hpost⟩ := h
  exact fun a w hs hp => (fin_of hG (fun a w hs => by rw [results_tmp hr, hs.getD hv]) hpost a w hs hp).1
theorem fin2 {fn : Func} {Post : Value → List Row → Prop} {r s : Nat} (hr : fn.results = #[.tmp r, .tmp s]) (hG : Gd B w00 n w0) (h : ∃ v u, lk L r = some v ∧ lk L s = some u ∧ Post (.tuple #[v, u]) R) : ∀ a w, Sat n L a → Hp B w0 w R → Fin P fn B w00 Post .ret a w := by
  obtain ⟨v, u, hv, hu, hpost⟩ := h
  exact fun a w hs hp => (fin_of hG (fun a w hs => by rw [results_tmp2 hr, hs.getD hv, hs.getD hu]) hpost a w hs hp).1
theorem fnV {f : FuncId} {fn : Func} {c : Code} {args : List Value} {Post : Value → List Row → Prop} (hf : P.funcs[f]? = some fn) (hb : fn.body = some c) (hl : Nat.ble args.length fn.ntmps = true)
    (h : V P (fn.ntmps : Nd) B w00 c (Fin P fn B w00 Post) (ini 0 args) R) : Ct P f args.toArray B w00 R Post := by
  intro w hw
  have hl' : args.length ≤ fn.ntmps := Nat.le_of_ble_eq_true hl
  refine callsIn_wide.1 (callsIn_of_wp_marks (F := Fence.wide) (n := 0) hf hb trivial (h _ w ⟨by simp; omega, rfl, fun t v ht => ?_⟩ hw))
  obtain ⟨_, h2⟩ := lk_ini args 0 t v ht
  simp only [Nat.sub_zero] at h2
  have hlt := (List.getElem?_eq_some_iff.1 h2).1
  rw [← h2]
  simp [Array.getElem?_append, hlt]
end
end Go.Eng
