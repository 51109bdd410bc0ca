/-
  Engine: loops over functions within rounds of such loops. Own work.
-/
import Derived.RangeFuncNested
import Derived.Test.YtdfcnalkdlifiaaE21
import Derived.Test.YtdfcnalkdlifiaaE10
namespace Go.Eng
open Go Go.RowKit
section
variable {P : Program} {n : Nd} {B : Nat} {w0 w00 : World} {F : Exit → Act → World → Prop} {L : Env} {R : List Row}
/-- The rounds of a loop, at whatever level: l the record, D the block of what is put off. -/
theorem roundsL {σ : Type} {m : Nat} {pl : List Nat} {assign body : Code} {gf : Nat} {lb : Array Value} {Rdy : World → Prop} {N : Nat} {f : Nat → List Value} (it : Iter P gf lb Rdy N f)
    (hpl : pl.all (fun p => Nat.blt p m) = true) (hfl : ∀ k, (f k).length = pl.length) (Rx : Nat → σ → List Row) (J : Nat → σ → Prop) (hrdy : ∀ k s w, J k s → Hp B w0 w (Rx k s) → Rdy w)
    (round : ∀ l k s W2, k < N → J k s → Below B w0 W2 → W P ⟨m, [], some l⟩ B W2 assign ⟨fun L' R' => ∀ W3, Below B w0 W3 → (∃ rc, W3.heap[l]? = some (.loop rc)) → W P ⟨m, [], some l⟩ B W3 body ⟨fun _ R'' => ∃ s', J (k + 1) s' ∧ ∀ W4 w, Hp B W4 w R'' → Hp B W4 w (Rx (k + 1) s'), fun _ _ => False, fun _ _ _ => False⟩ L' R', fun _ _ => False, fun _ _ _ => False⟩ (prm pl (f k) L) (Rx k s))
    {l : Nat} {rec : LoopState → Loop} {fn : FuncId} {t : Array Value} {Df : Nat} (hrec : rec = fun st => { state := st, pending := none, fn, tmps := t, params := pl.toArray, assign, body, defers := Df }) (ht : Sat ⟨m, [], some l⟩ L { tmps := t, defers := [] }) (hlB : B ≤ l) (hl0 : w0.heap.size ≤ l) (X : World → Prop)
    (hX : ∀ W W' R R', X W → Hp B w0 W R → Hp B W W' R' → X W') (hXp : ∀ W o, X W → X (W.putObj l o)) {W1 : World} (hL1 : W1.heap[l]? = some (.loop (rec .ready))) (hX1 : X W1) {s0 : σ} (hJ0 : J 0 s0) (hp1 : Hp B w0 W1 (Rx 0 s0)) :
    CallsIn Fence.wide 0 P gf (#[.func (.yield l) #[] #[]] ++ lb) W1 fun e W' => (∃ v, e = .returned v) ∧ ∃ s, J N s ∧ Hp B w0 W' (Rx N s) ∧ W'.heap[l]? = some (.loop (rec .ready)) ∧ X W' := by
  refine it l (fun k W => ∃ s, J k s ∧ Hp B w0 W (Rx k s) ∧ W.heap[l]? = some (.loop (rec .ready)) ∧ X W) W1 (fun k W ⟨s, hJ, hp, _⟩ => hrdy k s W hJ hp) ?_ ⟨s0, hJ0, hp1, hL1, hX1⟩
  rintro k W hk ⟨s, hJ, hp, hl, hx⟩
  have hy := run_yield (P := P) (args := (f k).toArray) hl (by rw [hrec]; simp [hfl k])
  have hs1 : Sat ⟨m, [], some l⟩ (prm pl (f k) L) { tmps := (rec .ready).params.zip (f k).toArray |>.foldl (fun t (p, v) => t.setIfInBounds p v) (rec .ready).tmps, defers := [] } := by
    rw [hrec]
    simpa using Sat.prm pl (f k) hpl ht
  refine ⟨fn, _, assign, body, by rw [hy, hrec], roundIn_of_wpIn trivial ?_⟩
  refine wpIn_mono ((round l k s W hk hJ hp.below) _ _ (by rw [hrec] at hs1; exact hs1) hp.rebase) ?_
  rintro e a1 Wa hq
  cases e with
  | normal =>
    obtain ⟨L', R', hs', hp', hb⟩ := hq
    have hla := hp'.late.2 _ _ hl rfl
    have hpa := hp.comp hp'
    have hlt := (Array.getElem?_eq_some_iff.1 hla).1
    have hbr := run_beginRound (P := P) hla (by rw [hrec])
    refine ⟨_, hbr, ?_⟩
    have hp2 : Hp B w0 (Wa.putObj l (.loop { rec .ready with state := .busy })) R' := hpa.putObj hla rfl _ hlB hl0
    have hl2 : (Wa.putObj l (.loop { rec .ready with state := .busy })).heap[l]? = some (.loop { rec .ready with state := .busy }) := World.putObj_heap_same hlt
    have hx2 := hXp _ (.loop { rec .ready with state := .busy }) (hX _ _ _ _ hx hp hp')
    refine wpIn_mono (hb _ hp2.below ⟨_, hl2⟩ a1 _ hs' hp2.rebase) ?_
    rintro e a3 W3 hq
    cases e with
    | normal =>
      obtain ⟨L3, R3, _, hp3, s', hJ', hR'⟩ := hq
      have hl3 := hp3.late.2 _ _ hl2 rfl
      have her := run_endRound (P := P) none hl3
      refine ⟨_, _, her, rfl, s', hJ', ?_, ?_, ?_⟩
      · exact (hp2.comp (hR' _ _ hp3)).putObj hl3 rfl _ hlB hl0
      · rw [World.putObj_heap_same (Array.getElem?_eq_some_iff.1 hl3).1, hrec]
        rfl
      · exact hXp _ _ (hX _ _ _ _ hx2 hp2 hp3)
    | ret => obtain ⟨_, _, _, _, h⟩ := hq; exact h.elim
    | exit id => obtain ⟨_, _, _, _, h⟩ := hq; exact h.elim
    | goto t => exact hq.elim
    | panic ch => exact hq.elim
    | outgrown => exact hq.elim
  | ret => obtain ⟨_, _, _, _, h⟩ := hq; exact h.elim
  | exit id => obtain ⟨_, _, _, _, h⟩ := hq; exact h.elim
  | goto t => exact hq.elim
  | panic ch => exact hq.elim
  | outgrown => exact hq.elim
/-- An outermost loop over a function. -/
theorem v_rangeL {σ : Type} {m : Nat} {ds : List Deferred} {g : Operand} {pl : List Nat} {assign body : Code} {gf : Nat} {lb : Array Value} {Rdy : World → Prop} {N : Nat} {f : Nat → List Value} (hg : ev L g = some (.func (.func gf) #[] lb))
    (hen : ∀ args w, (callFunc gf args).run P w = .ok (.enter gf args) w) (it : Iter P gf lb Rdy N f)
    (hpl : pl.all (fun p => Nat.blt p m) = true) (hfl : ∀ k, (f k).length = pl.length) (hG : Gd B w00 ⟨m, ds, none⟩ w0) (Rx : Nat → σ → List Row) (J : Nat → σ → Prop) (h0 : ∃ s, J 0 s ∧ ∀ w, Hp B w0 w R → Hp B w0 w (Rx 0 s)) (hrdy : ∀ k s w, J k s → Hp B w0 w (Rx k s) → Rdy w)
    (round : ∀ l k s W2, k < N → J k s → Below B w0 W2 → W P ⟨m, [], some l⟩ B W2 assign ⟨fun L' R' => ∀ W3, Below B w0 W3 → (∃ rc, W3.heap[l]? = some (.loop rc)) → W P ⟨m, [], some l⟩ B W3 body ⟨fun _ R'' => ∃ s', J (k + 1) s' ∧ ∀ W4 w, Hp B W4 w R'' → Hp B W4 w (Rx (k + 1) s'), fun _ _ => False, fun _ _ _ => False⟩ L' R', fun _ _ => False, fun _ _ _ => False⟩ (prm pl (f k) L) (Rx k s))
    (after : ∀ W5 D s, J N s → Below B w0 W5 → Gd B w00 ⟨m, mark D :: ds, none⟩ W5 → VN ⟨m, mark D :: ds, none⟩ B W5 F L (Rx N s)) :
    V P ⟨m, ds, none⟩ B w0 (.rangeFunc g pl.toArray assign body) F L R := by
  intro a w hs hp
  refine wpIn_rangeFunc ?_
  intro fn _
  obtain ⟨rec, hrec⟩ : ∃ rec : LoopState → Loop, rec = fun st => { state := st, pending := none, fn, tmps := a.tmps, params := pl.toArray, assign, body, defers := w.heap.size } := ⟨_, rfl⟩
  obtain ⟨W1, hW1⟩ : ∃ W1, (w.alloc (.deferred (some []))).alloc (.loop (rec .ready)) = W1 := ⟨_, rfl⟩
  have hL1 : W1.heap[w.heap.size + 1]? = some (.loop (rec .ready)) := by
    rw [← hW1]; have := World.alloc_heap_new (w.alloc (.deferred (some []))) (.loop (rec .ready)); rwa [World.size_alloc] at this
  have hK1 : W1.heap[w.heap.size]? = some (.deferred (some [])) := by
    rw [← hW1]; exact (Below.heap_alloc _ _ _ (by simp)).trans (World.alloc_heap_new w _)
  obtain ⟨s0, hJ0, hR0⟩ := h0
  have hp1 : Hp B w0 W1 (Rx 0 s0) := by rw [← hW1]; exact ((hR0 w hp).allocObj _).allocObj _
  have hle0 : w0.heap.size ≤ w.heap.size := hp.below.size
  have hleB := hp.base
  refine ⟨w.heap.size + 1, [mark w.heap.size], W1, { target := .fn (.func gf) lb, args := #[.func (.yield (w.heap.size + 1)) #[] #[]] }, W1, gf, #[.func (.yield (w.heap.size + 1)) #[] #[]] ++ lb, W1, ?_, ?_, fun _ _ => trivial, ?_, fun h => (by cases h), ?_⟩
  · rw [← hW1, hrec]; exact run_enterLoop_outer _ _ _ _ _
  · simp only [resolve, hs.ev hg]
    simp [go_sem]
  · simp [invoke, go_sem, hen]
  · refine CallsIn.mono (roundsL (w0 := w0) (m := m) (L := L) it hpl hfl Rx J hrdy round (l := w.heap.size + 1) (rec := rec) hrec ⟨hs.size, rfl, hs.val⟩ (by omega) (by omega) (fun W => W.heap[w.heap.size]? = some (.deferred (some [])) ∧ Late w W) ?_ ?_ hL1 ⟨hK1, ?_⟩ hJ0 hp1) ?_
    · rintro W W' R R' ⟨hk, hl⟩ _ h2
      exact ⟨h2.late.2 _ _ hk rfl, hl.trans h2.late⟩
    · rintro W o ⟨hk, hl⟩
      refine ⟨(World.putObj_heap_other (by omega)).trans hk, hl.1, fun k q hk' hc => ?_⟩
      rw [World.putObj_heap_other (fun e => by have := (Array.getElem?_eq_some_iff.1 hk').1; omega)]
      exact hl.2 k q hk' hc
    · rw [← hW1]
      exact (Late.alloc _ _).trans (Late.alloc _ _)
    · rintro e W2 ⟨⟨v, rfl⟩, s, hJ, hp2, hl2, hk2, hlate⟩
      have hel := run_endLoop (P := P) hl2 (by rw [hrec]; simp)
      have hpn : (rec .ready).pending = none := by rw [hrec]
      refine ⟨none, W2.putObj (w.heap.size + 1) (.loop { rec .ready with state := .exhausted }), hel.trans (congrArg (fun p => Result.ok p _) hpn), ?_⟩
      have hp3 : Hp B w0 (W2.putObj (w.heap.size + 1) (.loop { rec .ready with state := .exhausted })) (Rx N s) := hp2.putObj hl2 rfl _ (by omega) (by omega)
      have hk3 : (W2.putObj (w.heap.size + 1) (.loop { rec .ready with state := .exhausted })).heap[w.heap.size]? = some (.deferred (some [])) := (World.putObj_heap_other (by omega)).trans hk2
      have hlate3 : Late w (W2.putObj (w.heap.size + 1) (.loop { rec .ready with state := .exhausted })) := ⟨hlate.1, fun k q hk' hc => by
        rw [World.putObj_heap_other (fun e => by have := (Array.getElem?_eq_some_iff.1 hk').1; omega)]
        exact hlate.2 k q hk' hc⟩
      have hds := hs.defers
      refine after _ w.heap.size s hJ hp3.below ⟨hG.below.trans hp3.below, hG.late.trans hp3.late, List.nodup_cons.2 ⟨fun hmem => ?_, hG.nodup⟩, fun d hd => ?_⟩ _ _ ⟨hs.size, by simp only [List.singleton_append, hds], hs.val⟩ hp3.rebase
      · obtain ⟨D, he, _, _, hD⟩ := hG.marks _ hmem
        have h1 := (Array.getElem?_eq_some_iff.1 hD).1
        simp only [mark, Deferred.mk.injEq, Target.collected.injEq, and_true] at he
        omega
      · rcases List.mem_cons.1 hd with rfl | hd
        · exact ⟨_, rfl, by omega, by have := hG.below.size; omega, hk3⟩
        · obtain ⟨D, he, h1, h2, hD⟩ := hG.marks _ hd
          exact ⟨D, he, h1, h2, hp3.late.2 _ _ hD rfl⟩
theorem v_rangeL0  {m : Nat} {ds : List Deferred} {g : Operand} {pl : List Nat} {assign body : Code} {gf : Nat} {lb : Array Value} {Rdy : World → Prop} {N : Nat} {f : Nat → List Value} (hg : ev L g = some (.func (.func gf) #[] lb))
    (hen : ∀ args w, (callFunc gf args).run P w = .ok (.enter gf args) w) (it : Iter P gf lb Rdy N f)
    (hpl : pl.all (fun p => Nat.blt p m) = true) (hfl : ∀ k, (f k).length = pl.length) (hG : Gd B w00 ⟨m, ds, none⟩ w0) (Rx : Nat → List Row) (J : Nat → Prop)
    (h0 : J 0  ∧ ∀ w, Hp B w0 w R → Hp B w0 w (Rx 0 )) (hrdy : ∀ k  w, J k  → Hp B w0 w (Rx k ) → Rdy w)
    (round : ∀ l k  W2, k < N → J k  → Below B w0 W2 → W P ⟨m, [], some l⟩ B W2 assign ⟨fun L' R' => ∀ W3, Below B w0 W3 → (∃ rc, W3.heap[l]? = some (.loop rc)) → W P ⟨m, [], some l⟩ B W3 body ⟨fun _ R'' => J (k + 1)  ∧ ∀ W4 w, Hp B W4 w R'' → Hp B W4 w (Rx (k + 1) ), fun _ _ => False, fun _ _ _ => False⟩ L' R', fun _ _ => False, fun _ _ _ => False⟩ (prm pl (f k) L) (Rx k ))
    (after : ∀ W5 D , J N  → Below B w0 W5 → Gd B w00 ⟨m, mark D :: ds, none⟩ W5 → VN ⟨m, mark D :: ds, none⟩ B W5 F L (Rx N )) :
    V P ⟨m, ds, none⟩ B w0 (.rangeFunc g pl.toArray assign body) F L R := by
  obtain ⟨h1, h2⟩ := h0
  refine v_rangeL (σ := Unit) hg hen it hpl hfl hG (fun k p => Rx k ) (fun k p => J k ) ⟨(), h1, h2⟩ (fun k p => hrdy k ) (fun l k p W2 hk hp hb => w_mono (round l k  W2 hk hp hb) ?_ (fun _ _ h => h) (fun _ _ _ h => h)) (fun W5 D p => after W5 D )
  intro L' R' h W3 hb3 hl3
  refine w_mono (h W3 hb3 hl3) ?_ (fun _ _ h => h) (fun _ _ _ h => h)
  rintro _ R'' ⟨g1, g2⟩
  exact ⟨(), g1, g2⟩
theorem v_rangeL1 {σ0 : Type} {m : Nat} {ds : List Deferred} {g : Operand} {pl : List Nat} {assign body : Code} {gf : Nat} {lb : Array Value} {Rdy : World → Prop} {N : Nat} {f : Nat → List Value} (hg : ev L g = some (.func (.func gf) #[] lb))
    (hen : ∀ args w, (callFunc gf args).run P w = .ok (.enter gf args) w) (it : Iter P gf lb Rdy N f)
    (hpl : pl.all (fun p => Nat.blt p m) = true) (hfl : ∀ k, (f k).length = pl.length) (hG : Gd B w00 ⟨m, ds, none⟩ w0) (Rx : Nat → σ0 → List Row) (J : Nat → σ0 → Prop)
    (h0 : ∃ x0, J 0 x0 ∧ ∀ w, Hp B w0 w R → Hp B w0 w (Rx 0 x0)) (hrdy : ∀ k x0 w, J k x0 → Hp B w0 w (Rx k x0) → Rdy w)
    (round : ∀ l k x0 W2, k < N → J k x0 → Below B w0 W2 → W P ⟨m, [], some l⟩ B W2 assign ⟨fun L' R' => ∀ W3, Below B w0 W3 → (∃ rc, W3.heap[l]? = some (.loop rc)) → W P ⟨m, [], some l⟩ B W3 body ⟨fun _ R'' => ∃ y0, J (k + 1) y0 ∧ ∀ W4 w, Hp B W4 w R'' → Hp B W4 w (Rx (k + 1) y0), fun _ _ => False, fun _ _ _ => False⟩ L' R', fun _ _ => False, fun _ _ _ => False⟩ (prm pl (f k) L) (Rx k x0))
    (after : ∀ W5 D x0, J N x0 → Below B w0 W5 → Gd B w00 ⟨m, mark D :: ds, none⟩ W5 → VN ⟨m, mark D :: ds, none⟩ B W5 F L (Rx N x0)) :
    V P ⟨m, ds, none⟩ B w0 (.rangeFunc g pl.toArray assign body) F L R := by
  obtain ⟨x0, h1, h2⟩ := h0
  refine v_rangeL (σ := σ0) hg hen it hpl hfl hG (fun k p => Rx k p) (fun k p => J k p) ⟨x0, h1, h2⟩ (fun k p => hrdy k p) (fun l k p W2 hk hp hb => w_mono (round l k p W2 hk hp hb) ?_ (fun _ _ h => h) (fun _ _ _ h => h)) (fun W5 D p => after W5 D p)
  intro L' R' h W3 hb3 hl3
  refine w_mono (h W3 hb3 hl3) ?_ (fun _ _ h => h) (fun _ _ _ h => h)
  rintro _ R'' ⟨y0, g1, g2⟩
  exact ⟨y0, g1, g2⟩
theorem v_rangeL2 {σ0 σ1 : Type} {m : Nat} {ds : List Deferred} {g : Operand} {pl : List Nat} {assign body : Code} {gf : Nat} {lb : Array Value} {Rdy : World → Prop} {N : Nat} {f : Nat → List Value} (hg : ev L g = some (.func (.func gf) #[] lb))
    (hen : ∀ args w, (callFunc gf args).run P w = .ok (.enter gf args) w) (it : Iter P gf lb Rdy N f)
    (hpl : pl.all (fun p => Nat.blt p m) = true) (hfl : ∀ k, (f k).length = pl.length) (hG : Gd B w00 ⟨m, ds, none⟩ w0) (Rx : Nat → σ0 → σ1 → List Row) (J : Nat → σ0 → σ1 → Prop)
    (h0 : ∃ x0 x1, J 0 x0 x1 ∧ ∀ w, Hp B w0 w R → Hp B w0 w (Rx 0 x0 x1)) (hrdy : ∀ k x0 x1 w, J k x0 x1 → Hp B w0 w (Rx k x0 x1) → Rdy w)
    (round : ∀ l k x0 x1 W2, k < N → J k x0 x1 → Below B w0 W2 → W P ⟨m, [], some l⟩ B W2 assign ⟨fun L' R' => ∀ W3, Below B w0 W3 → (∃ rc, W3.heap[l]? = some (.loop rc)) → W P ⟨m, [], some l⟩ B W3 body ⟨fun _ R'' => ∃ y0 y1, J (k + 1) y0 y1 ∧ ∀ W4 w, Hp B W4 w R'' → Hp B W4 w (Rx (k + 1) y0 y1), fun _ _ => False, fun _ _ _ => False⟩ L' R', fun _ _ => False, fun _ _ _ => False⟩ (prm pl (f k) L) (Rx k x0 x1))
    (after : ∀ W5 D x0 x1, J N x0 x1 → Below B w0 W5 → Gd B w00 ⟨m, mark D :: ds, none⟩ W5 → VN ⟨m, mark D :: ds, none⟩ B W5 F L (Rx N x0 x1)) :
    V P ⟨m, ds, none⟩ B w0 (.rangeFunc g pl.toArray assign body) F L R := by
  obtain ⟨x0, x1, h1, h2⟩ := h0
  refine v_rangeL (σ := σ0 × σ1) hg hen it hpl hfl hG (fun k p => Rx k p.1 p.2) (fun k p => J k p.1 p.2) ⟨(x0, x1), h1, h2⟩ (fun k p => hrdy k p.1 p.2) (fun l k p W2 hk hp hb => w_mono (round l k p.1 p.2 W2 hk hp hb) ?_ (fun _ _ h => h) (fun _ _ _ h => h)) (fun W5 D p => after W5 D p.1 p.2)
  intro L' R' h W3 hb3 hl3
  refine w_mono (h W3 hb3 hl3) ?_ (fun _ _ h => h) (fun _ _ _ h => h)
  rintro _ R'' ⟨y0, y1, g1, g2⟩
  exact ⟨(y0, y1), g1, g2⟩
theorem v_rangeL3 {σ0 σ1 σ2 : Type} {m : Nat} {ds : List Deferred} {g : Operand} {pl : List Nat} {assign body : Code} {gf : Nat} {lb : Array Value} {Rdy : World → Prop} {N : Nat} {f : Nat → List Value} (hg : ev L g = some (.func (.func gf) #[] lb))
    (hen : ∀ args w, (callFunc gf args).run P w = .ok (.enter gf args) w) (it : Iter P gf lb Rdy N f)
    (hpl : pl.all (fun p => Nat.blt p m) = true) (hfl : ∀ k, (f k).length = pl.length) (hG : Gd B w00 ⟨m, ds, none⟩ w0) (Rx : Nat → σ0 → σ1 → σ2 → List Row) (J : Nat → σ0 → σ1 → σ2 → Prop)
    (h0 : ∃ x0 x1 x2, J 0 x0 x1 x2 ∧ ∀ w, Hp B w0 w R → Hp B w0 w (Rx 0 x0 x1 x2)) (hrdy : ∀ k x0 x1 x2 w, J k x0 x1 x2 → Hp B w0 w (Rx k x0 x1 x2) → Rdy w)
    (round : ∀ l k x0 x1 x2 W2, k < N → J k x0 x1 x2 → Below B w0 W2 → W P ⟨m, [], some l⟩ B W2 assign ⟨fun L' R' => ∀ W3, Below B w0 W3 → (∃ rc, W3.heap[l]? = some (.loop rc)) → W P ⟨m, [], some l⟩ B W3 body ⟨fun _ R'' => ∃ y0 y1 y2, J (k + 1) y0 y1 y2 ∧ ∀ W4 w, Hp B W4 w R'' → Hp B W4 w (Rx (k + 1) y0 y1 y2), fun _ _ => False, fun _ _ _ => False⟩ L' R', fun _ _ => False, fun _ _ _ => False⟩ (prm pl (f k) L) (Rx k x0 x1 x2))
    (after : ∀ W5 D x0 x1 x2, J N x0 x1 x2 → Below B w0 W5 → Gd B w00 ⟨m, mark D :: ds, none⟩ W5 → VN ⟨m, mark D :: ds, none⟩ B W5 F L (Rx N x0 x1 x2)) :
    V P ⟨m, ds, none⟩ B w0 (.rangeFunc g pl.toArray assign body) F L R := by
  obtain ⟨x0, x1, x2, h1, h2⟩ := h0
  refine v_rangeL (σ := σ0 × σ1 × σ2) hg hen it hpl hfl hG (fun k p => Rx k p.1 p.2.1 p.2.2) (fun k p => J k p.1 p.2.1 p.2.2) ⟨(x0, x1, x2), h1, h2⟩ (fun k p => hrdy k p.1 p.2.1 p.2.2) (fun l k p W2 hk hp hb => w_mono (round l k p.1 p.2.1 p.2.2 W2 hk hp hb) ?_ (fun _ _ h => h) (fun _ _ _ h => h)) (fun W5 D p => after W5 D p.1 p.2.1 p.2.2)
  intro L' R' h W3 hb3 hl3
  refine w_mono (h W3 hb3 hl3) ?_ (fun _ _ h => h) (fun _ _ _ h => h)
  rintro _ R'' ⟨y0, y1, y2, g1, g2⟩
  exact ⟨(y0, y1, y2), g1, g2⟩
theorem v_rangeL4 {σ0 σ1 σ2 σ3 : Type} {m : Nat} {ds : List Deferred} {g : Operand} {pl : List Nat} {assign body : Code} {gf : Nat} {lb : Array Value} {Rdy : World → Prop} {N : Nat} {f : Nat → List Value} (hg : ev L g = some (.func (.func gf) #[] lb))
    (hen : ∀ args w, (callFunc gf args).run P w = .ok (.enter gf args) w) (it : Iter P gf lb Rdy N f)
    (hpl : pl.all (fun p => Nat.blt p m) = true) (hfl : ∀ k, (f k).length = pl.length) (hG : Gd B w00 ⟨m, ds, none⟩ w0) (Rx : Nat → σ0 → σ1 → σ2 → σ3 → List Row) (J : Nat → σ0 → σ1 → σ2 → σ3 → Prop)
    (h0 : ∃ x0 x1 x2 x3, J 0 x0 x1 x2 x3 ∧ ∀ w, Hp B w0 w R → Hp B w0 w (Rx 0 x0 x1 x2 x3)) (hrdy : ∀ k x0 x1 x2 x3 w, J k x0 x1 x2 x3 → Hp B w0 w (Rx k x0 x1 x2 x3) → Rdy w)
    (round : ∀ l k x0 x1 x2 x3 W2, k < N → J k x0 x1 x2 x3 → Below B w0 W2 → W P ⟨m, [], some l⟩ B W2 assign ⟨fun L' R' => ∀ W3, Below B w0 W3 → (∃ rc, W3.heap[l]? = some (.loop rc)) → W P ⟨m, [], some l⟩ B W3 body ⟨fun _ R'' => ∃ y0 y1 y2 y3, J (k + 1) y0 y1 y2 y3 ∧ ∀ W4 w, Hp B W4 w R'' → Hp B W4 w (Rx (k + 1) y0 y1 y2 y3), fun _ _ => False, fun _ _ _ => False⟩ L' R', fun _ _ => False, fun _ _ _ => False⟩ (prm pl (f k) L) (Rx k x0 x1 x2 x3))
    (after : ∀ W5 D x0 x1 x2 x3, J N x0 x1 x2 x3 → Below B w0 W5 → Gd B w00 ⟨m, mark D :: ds, none⟩ W5 → VN ⟨m, mark D :: ds, none⟩ B W5 F L (Rx N x0 x1 x2 x3)) :
    V P ⟨m, ds, none⟩ B w0 (.rangeFunc g pl.toArray assign body) F L R := by
  obtain ⟨x0, x1, x2, x3, h1, h2⟩ := h0
  refine v_rangeL (σ := σ0 × σ1 × σ2 × σ3) hg hen it hpl hfl hG (fun k p => Rx k p.1 p.2.1 p.2.2.1 p.2.2.2) (fun k p => J k p.1 p.2.1 p.2.2.1 p.2.2.2) ⟨(x0, x1, x2, x3), h1, h2⟩ (fun k p => hrdy k p.1 p.2.1 p.2.2.1 p.2.2.2) (fun l k p W2 hk hp hb => w_mono (round l k p.1 p.2.1 p.2.2.1 p.2.2.2 W2 hk hp hb) ?_ (fun _ _ h => h) (fun _ _ _ h => h)) (fun W5 D p => after W5 D p.1 p.2.1 p.2.2.1 p.2.2.2)
  intro L' R' h W3 hb3 hl3
  refine w_mono (h W3 hb3 hl3) ?_ (fun _ _ h => h) (fun _ _ _ h => h)
  rintro _ R'' ⟨y0, y1, y2, y3, g1, g2⟩
  exact ⟨(y0, y1, y2, y3), g1, g2⟩
/-- A loop over a function within a round. -/
theorem w_range {σ : Type} {m l0 : Nat} {g : Operand} {pl : List Nat} {assign body : Code} {gf : Nat} {lb : Array Value} {Rdy : World → Prop} {N : Nat} {f : Nat → List Value} {Q : PostC} (hg : ev L g = some (.func (.func gf) #[] lb))
    (hen : ∀ args w, (callFunc gf args).run P w = .ok (.enter gf args) w) (it : Iter P gf lb Rdy N f)
    (hpl : pl.all (fun p => Nat.blt p m) = true) (hfl : ∀ k, (f k).length = pl.length) (hl0 : ∃ rc, w0.heap[l0]? = some (.loop rc)) (Rx : Nat → σ → List Row) (J : Nat → σ → Prop) (h0 : ∃ s, J 0 s ∧ ∀ w, Hp B w0 w R → Hp B w0 w (Rx 0 s)) (hrdy : ∀ k s w, J k s → Hp B w0 w (Rx k s) → Rdy w)
    (round : ∀ l k s W2, k < N → J k s → Below B w0 W2 → W P ⟨m, [], some l⟩ B W2 assign ⟨fun L' R' => ∀ W3, Below B w0 W3 → (∃ rc, W3.heap[l]? = some (.loop rc)) → W P ⟨m, [], some l⟩ B W3 body ⟨fun _ R'' => ∃ s', J (k + 1) s' ∧ ∀ W4 w, Hp B W4 w R'' → Hp B W4 w (Rx (k + 1) s'), fun _ _ => False, fun _ _ _ => False⟩ L' R', fun _ _ => False, fun _ _ _ => False⟩ (prm pl (f k) L) (Rx k s))
    (after : ∀ s, J N s → Q.nrm L (Rx N s)) :
    W P ⟨m, [], some l0⟩ B w0 (.rangeFunc g pl.toArray assign body) Q L R := by
  obtain ⟨r0, hr0⟩ := hl0
  intro a w hs hp
  have hl0w := hp.late.2 _ _ hr0 rfl
  refine wpIn_rangeFunc ?_
  intro fn _
  obtain ⟨rec, hrec⟩ : ∃ rec : LoopState → Loop, rec = fun st => { state := st, pending := none, fn, tmps := a.tmps, params := pl.toArray, assign, body, defers := r0.defers } := ⟨_, rfl⟩
  obtain ⟨W1, hW1⟩ : ∃ W1, w.alloc (.loop (rec .ready)) = W1 := ⟨_, rfl⟩
  have hL1 : W1.heap[w.heap.size]? = some (.loop (rec .ready)) := by rw [← hW1]; exact World.alloc_heap_new w _
  obtain ⟨s0, hJ0, hR0⟩ := h0
  have hp1 : Hp B w0 W1 (Rx 0 s0) := by rw [← hW1]; exact (hR0 w hp).allocObj _
  have hle0 : w0.heap.size ≤ w.heap.size := hp.below.size
  have hleB := hp.base
  refine ⟨w.heap.size, [], W1, { target := .fn (.func gf) lb, args := #[.func (.yield w.heap.size) #[] #[]] }, W1, gf, #[.func (.yield w.heap.size) #[] #[]] ++ lb, W1, ?_, ?_, fun _ _ => trivial, ?_, fun h => (by cases h), ?_⟩
  · rw [← hW1, hrec]; exact run_enterLoop_inner hl0w _ _ _ _ _
  · simp only [resolve, hs.ev hg]
    simp [go_sem]
  · simp [invoke, go_sem, hen]
  · refine CallsIn.mono (roundsL (w0 := w0) (m := m) (L := L) it hpl hfl Rx J hrdy round (l := w.heap.size) (rec := rec) hrec ⟨hs.size, rfl, hs.val⟩ (by omega) (by omega) (fun _ => True) (fun _ _ _ _ _ _ _ => trivial) (fun _ _ _ => trivial) hL1 trivial hJ0 hp1) ?_
    rintro e W2 ⟨⟨v, rfl⟩, s, hJ, hp2, hl2, _⟩
    have hel := run_endLoop (P := P) hl2 (by rw [hrec]; simp)
    have hpn : (rec .ready).pending = none := by rw [hrec]
    refine ⟨none, W2.putObj w.heap.size (.loop { rec .ready with state := .exhausted }), hel.trans (congrArg (fun p => Result.ok p _) hpn), ?_⟩
    have hds := hs.defers
    exact ⟨L, Rx N s, ⟨hs.size, by simp only [List.nil_append, hds], hs.val⟩, hp2.putObj hl2 rfl _ (by omega) (by omega), after s hJ⟩
theorem w_range0  {m l0 : Nat} {g : Operand} {pl : List Nat} {assign body : Code} {gf : Nat} {lb : Array Value} {Rdy : World → Prop} {N : Nat} {f : Nat → List Value} {Q : PostC} (hg : ev L g = some (.func (.func gf) #[] lb))
    (hen : ∀ args w, (callFunc gf args).run P w = .ok (.enter gf args) w) (it : Iter P gf lb Rdy N f)
    (hpl : pl.all (fun p => Nat.blt p m) = true) (hfl : ∀ k, (f k).length = pl.length) (hl0 : ∃ rc, w0.heap[l0]? = some (.loop rc)) (Rx : Nat → List Row) (J : Nat → Prop)
    (h0 : J 0  ∧ ∀ w, Hp B w0 w R → Hp B w0 w (Rx 0 )) (hrdy : ∀ k  w, J k  → Hp B w0 w (Rx k ) → Rdy w)
    (round : ∀ l k  W2, k < N → J k  → Below B w0 W2 → W P ⟨m, [], some l⟩ B W2 assign ⟨fun L' R' => ∀ W3, Below B w0 W3 → (∃ rc, W3.heap[l]? = some (.loop rc)) → W P ⟨m, [], some l⟩ B W3 body ⟨fun _ R'' => J (k + 1)  ∧ ∀ W4 w, Hp B W4 w R'' → Hp B W4 w (Rx (k + 1) ), fun _ _ => False, fun _ _ _ => False⟩ L' R', fun _ _ => False, fun _ _ _ => False⟩ (prm pl (f k) L) (Rx k ))
    (after : J N  → Q.nrm L (Rx N )) :
    W P ⟨m, [], some l0⟩ B w0 (.rangeFunc g pl.toArray assign body) Q L R := by
  obtain ⟨h1, h2⟩ := h0
  refine w_range (σ := Unit) hg hen it hpl hfl hl0 (fun k p => Rx k ) (fun k p => J k ) ⟨(), h1, h2⟩ (fun k p => hrdy k ) (fun l k p W2 hk hp hb => w_mono (round l k  W2 hk hp hb) ?_ (fun _ _ h => h) (fun _ _ _ h => h)) (fun p => after )
  intro L' R' h W3 hb3 hl3
  refine w_mono (h W3 hb3 hl3) ?_ (fun _ _ h => h) (fun _ _ _ h => h)
  rintro _ R'' ⟨g1, g2⟩
  exact ⟨(), g1, g2⟩
theorem w_range1 {σ0 : Type} {m l0 : Nat} {g : Operand} {pl : List Nat} {assign body : Code} {gf : Nat} {lb : Array Value} {Rdy : World → Prop} {N : Nat} {f : Nat → List Value} {Q : PostC} (hg : ev L g = some (.func (.func gf) #[] lb))
    (hen : ∀ args w, (callFunc gf args).run P w = .ok (.enter gf args) w) (it : Iter P gf lb Rdy N f)
    (hpl : pl.all (fun p => Nat.blt p m) = true) (hfl : ∀ k, (f k).length = pl.length) (hl0 : ∃ rc, w0.heap[l0]? = some (.loop rc)) (Rx : Nat → σ0 → List Row) (J : Nat → σ0 → Prop)
    (h0 : ∃ x0, J 0 x0 ∧ ∀ w, Hp B w0 w R → Hp B w0 w (Rx 0 x0)) (hrdy : ∀ k x0 w, J k x0 → Hp B w0 w (Rx k x0) → Rdy w)
    (round : ∀ l k x0 W2, k < N → J k x0 → Below B w0 W2 → W P ⟨m, [], some l⟩ B W2 assign ⟨fun L' R' => ∀ W3, Below B w0 W3 → (∃ rc, W3.heap[l]? = some (.loop rc)) → W P ⟨m, [], some l⟩ B W3 body ⟨fun _ R'' => ∃ y0, J (k + 1) y0 ∧ ∀ W4 w, Hp B W4 w R'' → Hp B W4 w (Rx (k + 1) y0), fun _ _ => False, fun _ _ _ => False⟩ L' R', fun _ _ => False, fun _ _ _ => False⟩ (prm pl (f k) L) (Rx k x0))
    (after : ∀ x0, J N x0 → Q.nrm L (Rx N x0)) :
    W P ⟨m, [], some l0⟩ B w0 (.rangeFunc g pl.toArray assign body) Q L R := by
  obtain ⟨x0, h1, h2⟩ := h0
  refine w_range (σ := σ0) hg hen it hpl hfl hl0 (fun k p => Rx k p) (fun k p => J k p) ⟨x0, h1, h2⟩ (fun k p => hrdy k p) (fun l k p W2 hk hp hb => w_mono (round l k p W2 hk hp hb) ?_ (fun _ _ h => h) (fun _ _ _ h => h)) (fun p => after p)
  intro L' R' h W3 hb3 hl3
  refine w_mono (h W3 hb3 hl3) ?_ (fun _ _ h => h) (fun _ _ _ h => h)
  rintro _ R'' ⟨y0, g1, g2⟩
  exact ⟨y0, g1, g2⟩
theorem w_range2 {σ0 σ1 : Type} {m l0 : Nat} {g : Operand} {pl : List Nat} {assign body : Code} {gf : Nat} {lb : Array Value} {Rdy : World → Prop} {N : Nat} {f : Nat → List Value} {Q : PostC} (hg : ev L g = some (.func (.func gf) #[] lb))
    (hen : ∀ args w, (callFunc gf args).run P w = .ok (.enter gf args) w) (it : Iter P gf lb Rdy N f)
    (hpl : pl.all (fun p => Nat.blt p m) = true) (hfl : ∀ k, (f k).length = pl.length) (hl0 : ∃ rc, w0.heap[l0]? = some (.loop rc)) (Rx : Nat → σ0 → σ1 → List Row) (J : Nat → σ0 → σ1 → Prop)
    (h0 : ∃ x0 x1, J 0 x0 x1 ∧ ∀ w, Hp B w0 w R → Hp B w0 w (Rx 0 x0 x1)) (hrdy : ∀ k x0 x1 w, J k x0 x1 → Hp B w0 w (Rx k x0 x1) → Rdy w)
    (round : ∀ l k x0 x1 W2, k < N → J k x0 x1 → Below B w0 W2 → W P ⟨m, [], some l⟩ B W2 assign ⟨fun L' R' => ∀ W3, Below B w0 W3 → (∃ rc, W3.heap[l]? = some (.loop rc)) → W P ⟨m, [], some l⟩ B W3 body ⟨fun _ R'' => ∃ y0 y1, J (k + 1) y0 y1 ∧ ∀ W4 w, Hp B W4 w R'' → Hp B W4 w (Rx (k + 1) y0 y1), fun _ _ => False, fun _ _ _ => False⟩ L' R', fun _ _ => False, fun _ _ _ => False⟩ (prm pl (f k) L) (Rx k x0 x1))
    (after : ∀ x0 x1, J N x0 x1 → Q.nrm L (Rx N x0 x1)) :
    W P ⟨m, [], some l0⟩ B w0 (.rangeFunc g pl.toArray assign body) Q L R := by
  obtain ⟨x0, x1, h1, h2⟩ := h0
  refine w_range (σ := σ0 × σ1) hg hen it hpl hfl hl0 (fun k p => Rx k p.1 p.2) (fun k p => J k p.1 p.2) ⟨(x0, x1), h1, h2⟩ (fun k p => hrdy k p.1 p.2) (fun l k p W2 hk hp hb => w_mono (round l k p.1 p.2 W2 hk hp hb) ?_ (fun _ _ h => h) (fun _ _ _ h => h)) (fun p => after p.1 p.2)
  intro L' R' h W3 hb3 hl3
  refine w_mono (h W3 hb3 hl3) ?_ (fun _ _ h => h) (fun _ _ _ h => h)
  rintro _ R'' ⟨y0, y1, g1, g2⟩
  exact ⟨(y0, y1), g1, g2⟩
theorem w_range3 {σ0 σ1 σ2 : Type} {m l0 : Nat} {g : Operand} {pl : List Nat} {assign body : Code} {gf : Nat} {lb : Array Value} {Rdy : World → Prop} {N : Nat} {f : Nat → List Value} {Q : PostC} (hg : ev L g = some (.func (.func gf) #[] lb))
    (hen : ∀ args w, (callFunc gf args).run P w = .ok (.enter gf args) w) (it : Iter P gf lb Rdy N f)
    (hpl : pl.all (fun p => Nat.blt p m) = true) (hfl : ∀ k, (f k).length = pl.length) (hl0 : ∃ rc, w0.heap[l0]? = some (.loop rc)) (Rx : Nat → σ0 → σ1 → σ2 → List Row) (J : Nat → σ0 → σ1 → σ2 → Prop)
    (h0 : ∃ x0 x1 x2, J 0 x0 x1 x2 ∧ ∀ w, Hp B w0 w R → Hp B w0 w (Rx 0 x0 x1 x2)) (hrdy : ∀ k x0 x1 x2 w, J k x0 x1 x2 → Hp B w0 w (Rx k x0 x1 x2) → Rdy w)
    (round : ∀ l k x0 x1 x2 W2, k < N → J k x0 x1 x2 → Below B w0 W2 → W P ⟨m, [], some l⟩ B W2 assign ⟨fun L' R' => ∀ W3, Below B w0 W3 → (∃ rc, W3.heap[l]? = some (.loop rc)) → W P ⟨m, [], some l⟩ B W3 body ⟨fun _ R'' => ∃ y0 y1 y2, J (k + 1) y0 y1 y2 ∧ ∀ W4 w, Hp B W4 w R'' → Hp B W4 w (Rx (k + 1) y0 y1 y2), fun _ _ => False, fun _ _ _ => False⟩ L' R', fun _ _ => False, fun _ _ _ => False⟩ (prm pl (f k) L) (Rx k x0 x1 x2))
    (after : ∀ x0 x1 x2, J N x0 x1 x2 → Q.nrm L (Rx N x0 x1 x2)) :
    W P ⟨m, [], some l0⟩ B w0 (.rangeFunc g pl.toArray assign body) Q L R := by
  obtain ⟨x0, x1, x2, h1, h2⟩ := h0
  refine w_range (σ := σ0 × σ1 × σ2) hg hen it hpl hfl hl0 (fun k p => Rx k p.1 p.2.1 p.2.2) (fun k p => J k p.1 p.2.1 p.2.2) ⟨(x0, x1, x2), h1, h2⟩ (fun k p => hrdy k p.1 p.2.1 p.2.2) (fun l k p W2 hk hp hb => w_mono (round l k p.1 p.2.1 p.2.2 W2 hk hp hb) ?_ (fun _ _ h => h) (fun _ _ _ h => h)) (fun p => after p.1 p.2.1 p.2.2)
  intro L' R' h W3 hb3 hl3
  refine w_mono (h W3 hb3 hl3) ?_ (fun _ _ h => h) (fun _ _ _ h => h)
  rintro _ R'' ⟨y0, y1, y2, g1, g2⟩
  exact ⟨(y0, y1, y2), g1, g2⟩
theorem w_range4 {σ0 σ1 σ2 σ3 : Type} {m l0 : Nat} {g : Operand} {pl : List Nat} {assign body : Code} {gf : Nat} {lb : Array Value} {Rdy : World → Prop} {N : Nat} {f : Nat → List Value} {Q : PostC} (hg : ev L g = some (.func (.func gf) #[] lb))
    (hen : ∀ args w, (callFunc gf args).run P w = .ok (.enter gf args) w) (it : Iter P gf lb Rdy N f)
    (hpl : pl.all (fun p => Nat.blt p m) = true) (hfl : ∀ k, (f k).length = pl.length) (hl0 : ∃ rc, w0.heap[l0]? = some (.loop rc)) (Rx : Nat → σ0 → σ1 → σ2 → σ3 → List Row) (J : Nat → σ0 → σ1 → σ2 → σ3 → Prop)
    (h0 : ∃ x0 x1 x2 x3, J 0 x0 x1 x2 x3 ∧ ∀ w, Hp B w0 w R → Hp B w0 w (Rx 0 x0 x1 x2 x3)) (hrdy : ∀ k x0 x1 x2 x3 w, J k x0 x1 x2 x3 → Hp B w0 w (Rx k x0 x1 x2 x3) → Rdy w)
    (round : ∀ l k x0 x1 x2 x3 W2, k < N → J k x0 x1 x2 x3 → Below B w0 W2 → W P ⟨m, [], some l⟩ B W2 assign ⟨fun L' R' => ∀ W3, Below B w0 W3 → (∃ rc, W3.heap[l]? = some (.loop rc)) → W P ⟨m, [], some l⟩ B W3 body ⟨fun _ R'' => ∃ y0 y1 y2 y3, J (k + 1) y0 y1 y2 y3 ∧ ∀ W4 w, Hp B W4 w R'' → Hp B W4 w (Rx (k + 1) y0 y1 y2 y3), fun _ _ => False, fun _ _ _ => False⟩ L' R', fun _ _ => False, fun _ _ _ => False⟩ (prm pl (f k) L) (Rx k x0 x1 x2 x3))
    (after : ∀ x0 x1 x2 x3, J N x0 x1 x2 x3 → Q.nrm L (Rx N x0 x1 x2 x3)) :
    W P ⟨m, [], some l0⟩ B w0 (.rangeFunc g pl.toArray assign body) Q L R := by
  obtain ⟨x0, x1, x2, x3, h1, h2⟩ := h0
  refine w_range (σ := σ0 × σ1 × σ2 × σ3) hg hen it hpl hfl hl0 (fun k p => Rx k p.1 p.2.1 p.2.2.1 p.2.2.2) (fun k p => J k p.1 p.2.1 p.2.2.1 p.2.2.2) ⟨(x0, x1, x2, x3), h1, h2⟩ (fun k p => hrdy k p.1 p.2.1 p.2.2.1 p.2.2.2) (fun l k p W2 hk hp hb => w_mono (round l k p.1 p.2.1 p.2.2.1 p.2.2.2 W2 hk hp hb) ?_ (fun _ _ h => h) (fun _ _ _ h => h)) (fun p => after p.1 p.2.1 p.2.2.1 p.2.2.2)
  intro L' R' h W3 hb3 hl3
  refine w_mono (h W3 hb3 hl3) ?_ (fun _ _ h => h) (fun _ _ _ h => h)
  rintro _ R'' ⟨y0, y1, y2, y3, g1, g2⟩
  exact ⟨(y0, y1, y2, y3), g1, g2⟩
theorem w_loop8 {σ0 σ1 σ2 σ3 σ4 σ5 σ6 σ7 : Type} {c : Code} {Q : PostC} {L : Env} {R : List Row} (Lx : σ0 → σ1 → σ2 → σ3 → σ4 → σ5 → σ6 → σ7 → Env) (Rx : σ0 → σ1 → σ2 → σ3 → σ4 → σ5 → σ6 → σ7 → List Row) (J : σ0 → σ1 → σ2 → σ3 → σ4 → σ5 → σ6 → σ7 → Prop) (μ : σ0 → σ1 → σ2 → σ3 → σ4 → σ5 → σ6 → σ7 → Nat)
    (h0 : ∃ x0 x1 x2 x3 x4 x5 x6 x7, J x0 x1 x2 x3 x4 x5 x6 x7 ∧ Sub (Lx x0 x1 x2 x3 x4 x5 x6 x7) L ∧ ∀ w, Hp B w0 w R → Hp B w0 w (Rx x0 x1 x2 x3 x4 x5 x6 x7))
    (round : ∀ x0 x1 x2 x3 x4 x5 x6 x7, J x0 x1 x2 x3 x4 x5 x6 x7 → W P n B w0 c { Q with nrm := fun L' R' => ∃ y0 y1 y2 y3 y4 y5 y6 y7, J y0 y1 y2 y3 y4 y5 y6 y7 ∧ μ y0 y1 y2 y3 y4 y5 y6 y7 < μ x0 x1 x2 x3 x4 x5 x6 x7 ∧ Sub (Lx y0 y1 y2 y3 y4 y5 y6 y7) L' ∧ ∀ w, Hp B w0 w R' → Hp B w0 w (Rx y0 y1 y2 y3 y4 y5 y6 y7) } (Lx x0 x1 x2 x3 x4 x5 x6 x7) (Rx x0 x1 x2 x3 x4 x5 x6 x7)) : W P n B w0 (.loop c) Q L R := by
  obtain ⟨x0, x1, x2, x3, x4, x5, x6, x7, h1, h2, h3⟩ := h0
  refine w_loop (σ := σ0 × σ1 × σ2 × σ3 × σ4 × σ5 × σ6 × σ7) (fun p => Lx p.1 p.2.1 p.2.2.1 p.2.2.2.1 p.2.2.2.2.1 p.2.2.2.2.2.1 p.2.2.2.2.2.2.1 p.2.2.2.2.2.2.2) (fun p => Rx p.1 p.2.1 p.2.2.1 p.2.2.2.1 p.2.2.2.2.1 p.2.2.2.2.2.1 p.2.2.2.2.2.2.1 p.2.2.2.2.2.2.2) (fun p => J p.1 p.2.1 p.2.2.1 p.2.2.2.1 p.2.2.2.2.1 p.2.2.2.2.2.1 p.2.2.2.2.2.2.1 p.2.2.2.2.2.2.2) (fun p => μ p.1 p.2.1 p.2.2.1 p.2.2.2.1 p.2.2.2.2.1 p.2.2.2.2.2.1 p.2.2.2.2.2.2.1 p.2.2.2.2.2.2.2) ⟨(x0, x1, x2, x3, x4, x5, x6, x7), h1, h2, h3⟩ fun p hp => w_mono (round p.1 p.2.1 p.2.2.1 p.2.2.2.1 p.2.2.2.2.1 p.2.2.2.2.2.1 p.2.2.2.2.2.2.1 p.2.2.2.2.2.2.2 hp) ?_ (fun _ _ h => h) (fun _ _ _ h => h)
  rintro L' R' ⟨y0, y1, y2, y3, y4, y5, y6, y7, g1, g2, g3, g4⟩
  exact ⟨(y0, y1, y2, y3, y4, y5, y6, y7), ⟨g1, g2⟩, g3, g4⟩
theorem w_join8 {σ0 σ1 σ2 σ3 σ4 σ5 σ6 σ7 : Type} {x y : Code} {Q : PostC} {L : Env} {R : List Row} (Lx : σ0 → σ1 → σ2 → σ3 → σ4 → σ5 → σ6 → σ7 → Env) (Rx : σ0 → σ1 → σ2 → σ3 → σ4 → σ5 → σ6 → σ7 → List Row) (J : σ0 → σ1 → σ2 → σ3 → σ4 → σ5 → σ6 → σ7 → Prop)
    (hx : W P n B w0 x { Q with nrm := fun L' R' => ∃ x0 x1 x2 x3 x4 x5 x6 x7, J x0 x1 x2 x3 x4 x5 x6 x7 ∧ Sub (Lx x0 x1 x2 x3 x4 x5 x6 x7) L' ∧ ∀ w, Hp B w0 w R' → Hp B w0 w (Rx x0 x1 x2 x3 x4 x5 x6 x7) } L R) (hy : ∀ x0 x1 x2 x3 x4 x5 x6 x7, J x0 x1 x2 x3 x4 x5 x6 x7 → W P n B w0 y Q (Lx x0 x1 x2 x3 x4 x5 x6 x7) (Rx x0 x1 x2 x3 x4 x5 x6 x7)) : W P n B w0 (.seq x y) Q L R :=
  w_seq (w_mono hx (fun _ _ ⟨x0, x1, x2, x3, x4, x5, x6, x7, hJ, hL, hR⟩ => w_sub hL hR (hy x0 x1 x2 x3 x4 x5 x6 x7 hJ)) (fun _ _ h => h) (fun _ _ _ h => h))
/-! ### rows of slices in rows of their own -/
/-- What the slices of a row lead to, whatever the world in which these rows lie. -/
def SlR (k : IntKind) (Rs : List Row) (vals : List Value) (ls : List (List Int)) : Prop := vals.length = ls.length ∧ ∀ j : Nat, j < ls.length → ∃ (A : Option Addr) (c : Nat), vals[j]? = some (.slice A (ls.getD j []).length c) ∧ ∀ (B : Nat) (w0 w : World), Hp B w0 w Rs → Rd w A (ls.getD j []).length c 1 (ints k (ls.getD j []))
theorem SlR.nil (k : IntKind) : SlR k [] [] [] := ⟨rfl, fun j hj => by simp at hj⟩
theorem SlR.snoc {k : IntKind} {Rs : List Row} {vals : List Value} {ls : List (List Int)} {A : Option Addr} {n c e : Nat} {l : List Int} {ro : Bool} (h : SlR k Rs vals ls) (hn : n = l.length) : SlR k (⟨e, 1, A, n, c, ints k l, ro⟩ :: Rs) (vals ++ [.slice A n c]) (ls ++ [l]) := by
  subst hn
  refine ⟨by simp [h.1], fun j hj => ?_⟩
  rcases Nat.lt_or_ge j ls.length with g | g
  · obtain ⟨A', c', h1, h2⟩ := h.2 j g
    have e1 : (ls ++ [l]).getD j [] = ls.getD j [] := by
      rw [List.getD_eq_getElem?_getD, List.getD_eq_getElem?_getD, List.getElem?_append_left g]
    rw [e1]
    exact ⟨A', c', by rw [List.getElem?_append_left (by rw [h.1]; exact g)]; exact h1, fun B w0 w hw => h2 B w0 w hw.tail⟩
  · have hjl : j = ls.length := by simp at hj; omega
    subst hjl
    have e1 : (ls ++ [l]).getD ls.length [] = l := by simp [List.getD_eq_getElem?_getD]
    rw [e1]
    refine ⟨A, c, by rw [← h.1]; simp, fun B w0 w hw => ?_⟩
    exact rdr (R := ⟨e, 1, A, l.length, c, ints k l, ro⟩ :: Rs) 0 rfl w hw
theorem SlR.at {k : IntKind} {Rs : List Row} {vals : List Value} {ls : List (List Int)} (h : SlR k Rs vals ls) {i : Int} (h0 : 0 ≤ i) (h1 : i < ls.length) : ∃ (A : Option Addr) (c : Nat), vals[i.toNat]? = some (.slice A (rdl ls i).length c) ∧ ∀ (B : Nat) (w0 w : World), Hp B w0 w Rs → Rd w A (rdl ls i).length c 1 (ints k (rdl ls i)) := h.2 i.toNat (by omega)
theorem Hp.left {w : World} {X T : List Row} (h : Hp B w0 w (X ++ T)) : Hp B w0 w X := h.sublist (List.sublist_append_left X T)
theorem Hp.toTail0 {w : World} {X Rs Y : List Row} (h : Hp B w0 w ((X ++ Rs) ++ Y)) : Hp B w0 w (X ++ (Y ++ Rs)) := by
  refine h.perm ?_
  rw [List.append_assoc]
  exact List.Perm.append_left X List.perm_append_comm
/-- A slot told in another way. -/
theorem w_as {Q : PostC} {c : Code} {d : Nat} {v : Value} (h : lk L d = some v) (k : W P n B w0 c Q ((d, v) :: L) R) : W P n B w0 c Q L R := fun a w hs hp => k a w ⟨hs.size, hs.defers, fun t u ht => by
  unfold lk at ht
  cases e : Nat.beq d t with
  | true => rw [e] at ht; simp only [cond_true] at ht; obtain rfl := Nat.eq_of_beq_eq_true e; exact hs.val _ _ (h.trans ht)
  | false => rw [e] at ht; simp only [cond_false] at ht; exact hs.val _ _ ht⟩ hp
/-- Rows that came up go behind the others. -/
theorem Hp.toTail {w : World} {X Rs Y T : List Row} (h : Hp B w0 w ((X ++ Rs) ++ (Y ++ T))) : Hp B w0 w (X ++ (Y ++ (Rs ++ T))) := by
  refine h.perm ?_
  rw [List.append_assoc]
  refine List.Perm.append_left X ?_
  rw [← List.append_assoc, ← List.append_assoc]
  exact List.Perm.append_right T List.perm_append_comm
end
end Go.Eng
