/-
  The engine's rules for loops and meetings with named states, for contracts, strings. Own work.
-/
import Derived.Test.YtlagmdccneompaaE5
import Derived.Lib.ConvBytes
namespace Go.Eng
open Go Go.RowKit
section
variable {P : Program} {n B : Nat} {w0 : World}
theorem w_loop1 {σ0 : Type} {c : Code} {Q : PostC} {L : Env} {R : List Row} (Lx : σ0 → Env) (Rx : σ0 → List Row) (J : σ0 → Prop) (μ : σ0 → Nat)
    (h0 : ∃ x0, J x0 ∧ Sub (Lx x0) L ∧ ∀ w, Hp B w0 w R → Hp B w0 w (Rx x0))
    (round : ∀ x0, J x0 → W P n B w0 c { Q with nrm := fun L' R' => ∃ y0, J y0 ∧ μ y0 < μ x0 ∧ Sub (Lx y0) L' ∧ ∀ w, Hp B w0 w R' → Hp B w0 w (Rx y0) } (Lx x0) (Rx x0)) : W P n B w0 (.loop c) Q L R := by
  obtain ⟨x0, h1, h2, h3⟩ := h0
  refine w_loop (σ := σ0) (fun p => Lx p) (fun p => Rx p) (fun p => J p) (fun p => μ p) ⟨x0, h1, h2, h3⟩ fun p hp => w_mono (round p hp) ?_ (fun _ _ h => h) (fun _ _ _ h => h)
  rintro L' R' ⟨y0, g1, g2, g3, g4⟩
  exact ⟨y0, ⟨g1, g2⟩, g3, g4⟩
theorem w_join1 {σ0 : Type} {x y : Code} {Q : PostC} {L : Env} {R : List Row} (Lx : σ0 → Env) (Rx : σ0 → List Row) (J : σ0 → Prop)
    (hx : W P n B w0 x { Q with nrm := fun L' R' => ∃ x0, J x0 ∧ Sub (Lx x0) L' ∧ ∀ w, Hp B w0 w R' → Hp B w0 w (Rx x0) } L R) (hy : ∀ x0, J x0 → W P n B w0 y Q (Lx x0) (Rx x0)) : W P n B w0 (.seq x y) Q L R :=
  w_seq (w_mono hx (fun _ _ ⟨x0, hJ, hL, hR⟩ => w_sub hL hR (hy x0 hJ)) (fun _ _ h => h) (fun _ _ _ h => h))
theorem w_loop2 {σ0 σ1 : Type} {c : Code} {Q : PostC} {L : Env} {R : List Row} (Lx : σ0 → σ1 → Env) (Rx : σ0 → σ1 → List Row) (J : σ0 → σ1 → Prop) (μ : σ0 → σ1 → Nat)
    (h0 : ∃ x0 x1, J x0 x1 ∧ Sub (Lx x0 x1) L ∧ ∀ w, Hp B w0 w R → Hp B w0 w (Rx x0 x1))
    (round : ∀ x0 x1, J x0 x1 → W P n B w0 c { Q with nrm := fun L' R' => ∃ y0 y1, J y0 y1 ∧ μ y0 y1 < μ x0 x1 ∧ Sub (Lx y0 y1) L' ∧ ∀ w, Hp B w0 w R' → Hp B w0 w (Rx y0 y1) } (Lx x0 x1) (Rx x0 x1)) : W P n B w0 (.loop c) Q L R := by
  obtain ⟨x0, x1, h1, h2, h3⟩ := h0
  refine w_loop (σ := σ0 × σ1) (fun p => Lx p.1 p.2) (fun p => Rx p.1 p.2) (fun p => J p.1 p.2) (fun p => μ p.1 p.2) ⟨(x0, x1), h1, h2, h3⟩ fun p hp => w_mono (round p.1 p.2 hp) ?_ (fun _ _ h => h) (fun _ _ _ h => h)
  rintro L' R' ⟨y0, y1, g1, g2, g3, g4⟩
  exact ⟨(y0, y1), ⟨g1, g2⟩, g3, g4⟩
theorem w_join2 {σ0 σ1 : Type} {x y : Code} {Q : PostC} {L : Env} {R : List Row} (Lx : σ0 → σ1 → Env) (Rx : σ0 → σ1 → List Row) (J : σ0 → σ1 → Prop)
    (hx : W P n B w0 x { Q with nrm := fun L' R' => ∃ x0 x1, J x0 x1 ∧ Sub (Lx x0 x1) L' ∧ ∀ w, Hp B w0 w R' → Hp B w0 w (Rx x0 x1) } L R) (hy : ∀ x0 x1, J x0 x1 → W P n B w0 y Q (Lx x0 x1) (Rx x0 x1)) : W P n B w0 (.seq x y) Q L R :=
  w_seq (w_mono hx (fun _ _ ⟨x0, x1, hJ, hL, hR⟩ => w_sub hL hR (hy x0 x1 hJ)) (fun _ _ h => h) (fun _ _ _ h => h))
theorem w_loop3 {σ0 σ1 σ2 : Type} {c : Code} {Q : PostC} {L : Env} {R : List Row} (Lx : σ0 → σ1 → σ2 → Env) (Rx : σ0 → σ1 → σ2 → List Row) (J : σ0 → σ1 → σ2 → Prop) (μ : σ0 → σ1 → σ2 → Nat)
    (h0 : ∃ x0 x1 x2, J x0 x1 x2 ∧ Sub (Lx x0 x1 x2) L ∧ ∀ w, Hp B w0 w R → Hp B w0 w (Rx x0 x1 x2))
    (round : ∀ x0 x1 x2, J x0 x1 x2 → W P n B w0 c { Q with nrm := fun L' R' => ∃ y0 y1 y2, J y0 y1 y2 ∧ μ y0 y1 y2 < μ x0 x1 x2 ∧ Sub (Lx y0 y1 y2) L' ∧ ∀ w, Hp B w0 w R' → Hp B w0 w (Rx y0 y1 y2) } (Lx x0 x1 x2) (Rx x0 x1 x2)) : W P n B w0 (.loop c) Q L R := by
  obtain ⟨x0, x1, x2, h1, h2, h3⟩ := h0
  refine w_loop (σ := σ0 × σ1 × σ2) (fun p => Lx p.1 p.2.1 p.2.2) (fun p => Rx p.1 p.2.1 p.2.2) (fun p => J p.1 p.2.1 p.2.2) (fun p => μ p.1 p.2.1 p.2.2) ⟨(x0, x1, x2), h1, h2, h3⟩ fun p hp => w_mono (round p.1 p.2.1 p.2.2 hp) ?_ (fun _ _ h => h) (fun _ _ _ h => h)
  rintro L' R' ⟨y0, y1, y2, g1, g2, g3, g4⟩
  exact ⟨(y0, y1, y2), ⟨g1, g2⟩, g3, g4⟩
theorem w_join3 {σ0 σ1 σ2 : Type} {x y : Code} {Q : PostC} {L : Env} {R : List Row} (Lx : σ0 → σ1 → σ2 → Env) (Rx : σ0 → σ1 → σ2 → List Row) (J : σ0 → σ1 → σ2 → Prop)
    (hx : W P n B w0 x { Q with nrm := fun L' R' => ∃ x0 x1 x2, J x0 x1 x2 ∧ Sub (Lx x0 x1 x2) L' ∧ ∀ w, Hp B w0 w R' → Hp B w0 w (Rx x0 x1 x2) } L R) (hy : ∀ x0 x1 x2, J x0 x1 x2 → W P n B w0 y Q (Lx x0 x1 x2) (Rx x0 x1 x2)) : W P n B w0 (.seq x y) Q L R :=
  w_seq (w_mono hx (fun _ _ ⟨x0, x1, x2, hJ, hL, hR⟩ => w_sub hL hR (hy x0 x1 x2 hJ)) (fun _ _ h => h) (fun _ _ _ h => h))
theorem w_loop4 {σ0 σ1 σ2 σ3 : Type} {c : Code} {Q : PostC} {L : Env} {R : List Row} (Lx : σ0 → σ1 → σ2 → σ3 → Env) (Rx : σ0 → σ1 → σ2 → σ3 → List Row) (J : σ0 → σ1 → σ2 → σ3 → Prop) (μ : σ0 → σ1 → σ2 → σ3 → Nat)
    (h0 : ∃ x0 x1 x2 x3, J x0 x1 x2 x3 ∧ Sub (Lx x0 x1 x2 x3) L ∧ ∀ w, Hp B w0 w R → Hp B w0 w (Rx x0 x1 x2 x3))
    (round : ∀ x0 x1 x2 x3, J x0 x1 x2 x3 → W P n B w0 c { Q with nrm := fun L' R' => ∃ y0 y1 y2 y3, J y0 y1 y2 y3 ∧ μ y0 y1 y2 y3 < μ x0 x1 x2 x3 ∧ Sub (Lx y0 y1 y2 y3) L' ∧ ∀ w, Hp B w0 w R' → Hp B w0 w (Rx y0 y1 y2 y3) } (Lx x0 x1 x2 x3) (Rx x0 x1 x2 x3)) : W P n B w0 (.loop c) Q L R := by
  obtain ⟨x0, x1, x2, x3, h1, h2, h3⟩ := h0
  refine w_loop (σ := σ0 × σ1 × σ2 × σ3) (fun p => Lx p.1 p.2.1 p.2.2.1 p.2.2.2) (fun p => Rx p.1 p.2.1 p.2.2.1 p.2.2.2) (fun p => J p.1 p.2.1 p.2.2.1 p.2.2.2) (fun p => μ p.1 p.2.1 p.2.2.1 p.2.2.2) ⟨(x0, x1, x2, x3), h1, h2, h3⟩ fun p hp => w_mono (round p.1 p.2.1 p.2.2.1 p.2.2.2 hp) ?_ (fun _ _ h => h) (fun _ _ _ h => h)
  rintro L' R' ⟨y0, y1, y2, y3, g1, g2, g3, g4⟩
  exact ⟨(y0, y1, y2, y3), ⟨g1, g2⟩, g3, g4⟩
theorem w_join4 {σ0 σ1 σ2 σ3 : Type} {x y : Code} {Q : PostC} {L : Env} {R : List Row} (Lx : σ0 → σ1 → σ2 → σ3 → Env) (Rx : σ0 → σ1 → σ2 → σ3 → List Row) (J : σ0 → σ1 → σ2 → σ3 → Prop)
    (hx : W P n B w0 x { Q with nrm := fun L' R' => ∃ x0 x1 x2 x3, J x0 x1 x2 x3 ∧ Sub (Lx x0 x1 x2 x3) L' ∧ ∀ w, Hp B w0 w R' → Hp B w0 w (Rx x0 x1 x2 x3) } L R) (hy : ∀ x0 x1 x2 x3, J x0 x1 x2 x3 → W P n B w0 y Q (Lx x0 x1 x2 x3) (Rx x0 x1 x2 x3)) : W P n B w0 (.seq x y) Q L R :=
  w_seq (w_mono hx (fun _ _ ⟨x0, x1, x2, x3, hJ, hL, hR⟩ => w_sub hL hR (hy x0 x1 x2 x3 hJ)) (fun _ _ h => h) (fun _ _ _ h => h))
theorem w_loop5 {σ0 σ1 σ2 σ3 σ4 : Type} {c : Code} {Q : PostC} {L : Env} {R : List Row} (Lx : σ0 → σ1 → σ2 → σ3 → σ4 → Env) (Rx : σ0 → σ1 → σ2 → σ3 → σ4 → List Row) (J : σ0 → σ1 → σ2 → σ3 → σ4 → Prop) (μ : σ0 → σ1 → σ2 → σ3 → σ4 → Nat)
    (h0 : ∃ x0 x1 x2 x3 x4, J x0 x1 x2 x3 x4 ∧ Sub (Lx x0 x1 x2 x3 x4) L ∧ ∀ w, Hp B w0 w R → Hp B w0 w (Rx x0 x1 x2 x3 x4))
    (round : ∀ x0 x1 x2 x3 x4, J x0 x1 x2 x3 x4 → W P n B w0 c { Q with nrm := fun L' R' => ∃ y0 y1 y2 y3 y4, J y0 y1 y2 y3 y4 ∧ μ y0 y1 y2 y3 y4 < μ x0 x1 x2 x3 x4 ∧ Sub (Lx y0 y1 y2 y3 y4) L' ∧ ∀ w, Hp B w0 w R' → Hp B w0 w (Rx y0 y1 y2 y3 y4) } (Lx x0 x1 x2 x3 x4) (Rx x0 x1 x2 x3 x4)) : W P n B w0 (.loop c) Q L R := by
  obtain ⟨x0, x1, x2, x3, x4, h1, h2, h3⟩ := h0
  refine w_loop (σ := σ0 × σ1 × σ2 × σ3 × σ4) (fun p => Lx p.1 p.2.1 p.2.2.1 p.2.2.2.1 p.2.2.2.2) (fun p => Rx p.1 p.2.1 p.2.2.1 p.2.2.2.1 p.2.2.2.2) (fun p => J p.1 p.2.1 p.2.2.1 p.2.2.2.1 p.2.2.2.2) (fun p => μ p.1 p.2.1 p.2.2.1 p.2.2.2.1 p.2.2.2.2) ⟨(x0, x1, x2, x3, x4), h1, h2, h3⟩ fun p hp => w_mono (round p.1 p.2.1 p.2.2.1 p.2.2.2.1 p.2.2.2.2 hp) ?_ (fun _ _ h => h) (fun _ _ _ h => h)
  rintro L' R' ⟨y0, y1, y2, y3, y4, g1, g2, g3, g4⟩
  exact ⟨(y0, y1, y2, y3, y4), ⟨g1, g2⟩, g3, g4⟩
theorem w_join5 {σ0 σ1 σ2 σ3 σ4 : Type} {x y : Code} {Q : PostC} {L : Env} {R : List Row} (Lx : σ0 → σ1 → σ2 → σ3 → σ4 → Env) (Rx : σ0 → σ1 → σ2 → σ3 → σ4 → List Row) (J : σ0 → σ1 → σ2 → σ3 → σ4 → Prop)
    (hx : W P n B w0 x { Q with nrm := fun L' R' => ∃ x0 x1 x2 x3 x4, J x0 x1 x2 x3 x4 ∧ Sub (Lx x0 x1 x2 x3 x4) L' ∧ ∀ w, Hp B w0 w R' → Hp B w0 w (Rx x0 x1 x2 x3 x4) } L R) (hy : ∀ x0 x1 x2 x3 x4, J x0 x1 x2 x3 x4 → W P n B w0 y Q (Lx x0 x1 x2 x3 x4) (Rx x0 x1 x2 x3 x4)) : W P n B w0 (.seq x y) Q L R :=
  w_seq (w_mono hx (fun _ _ ⟨x0, x1, x2, x3, x4, hJ, hL, hR⟩ => w_sub hL hR (hy x0 x1 x2 x3 x4 hJ)) (fun _ _ h => h) (fun _ _ _ h => h))
theorem w_loop6 {σ0 σ1 σ2 σ3 σ4 σ5 : Type} {c : Code} {Q : PostC} {L : Env} {R : List Row} (Lx : σ0 → σ1 → σ2 → σ3 → σ4 → σ5 → Env) (Rx : σ0 → σ1 → σ2 → σ3 → σ4 → σ5 → List Row) (J : σ0 → σ1 → σ2 → σ3 → σ4 → σ5 → Prop) (μ : σ0 → σ1 → σ2 → σ3 → σ4 → σ5 → Nat)
    (h0 : ∃ x0 x1 x2 x3 x4 x5, J x0 x1 x2 x3 x4 x5 ∧ Sub (Lx x0 x1 x2 x3 x4 x5) L ∧ ∀ w, Hp B w0 w R → Hp B w0 w (Rx x0 x1 x2 x3 x4 x5))
    (round : ∀ x0 x1 x2 x3 x4 x5, J x0 x1 x2 x3 x4 x5 → W P n B w0 c { Q with nrm := fun L' R' => ∃ y0 y1 y2 y3 y4 y5, J y0 y1 y2 y3 y4 y5 ∧ μ y0 y1 y2 y3 y4 y5 < μ x0 x1 x2 x3 x4 x5 ∧ Sub (Lx y0 y1 y2 y3 y4 y5) L' ∧ ∀ w, Hp B w0 w R' → Hp B w0 w (Rx y0 y1 y2 y3 y4 y5) } (Lx x0 x1 x2 x3 x4 x5) (Rx x0 x1 x2 x3 x4 x5)) : W P n B w0 (.loop c) Q L R := by
  obtain ⟨x0, x1, x2, x3, x4, x5, h1, h2, h3⟩ := h0
  refine w_loop (σ := σ0 × σ1 × σ2 × σ3 × σ4 × σ5) (fun p => Lx p.1 p.2.1 p.2.2.1 p.2.2.2.1 p.2.2.2.2.1 p.2.2.2.2.2) (fun p => Rx p.1 p.2.1 p.2.2.1 p.2.2.2.1 p.2.2.2.2.1 p.2.2.2.2.2) (fun p => J p.1 p.2.1 p.2.2.1 p.2.2.2.1 p.2.2.2.2.1 p.2.2.2.2.2) (fun p => μ p.1 p.2.1 p.2.2.1 p.2.2.2.1 p.2.2.2.2.1 p.2.2.2.2.2) ⟨(x0, x1, x2, x3, x4, x5), h1, h2, h3⟩ fun p hp => w_mono (round p.1 p.2.1 p.2.2.1 p.2.2.2.1 p.2.2.2.2.1 p.2.2.2.2.2 hp) ?_ (fun _ _ h => h) (fun _ _ _ h => h)
  rintro L' R' ⟨y0, y1, y2, y3, y4, y5, g1, g2, g3, g4⟩
  exact ⟨(y0, y1, y2, y3, y4, y5), ⟨g1, g2⟩, g3, g4⟩
theorem w_join6 {σ0 σ1 σ2 σ3 σ4 σ5 : Type} {x y : Code} {Q : PostC} {L : Env} {R : List Row} (Lx : σ0 → σ1 → σ2 → σ3 → σ4 → σ5 → Env) (Rx : σ0 → σ1 → σ2 → σ3 → σ4 → σ5 → List Row) (J : σ0 → σ1 → σ2 → σ3 → σ4 → σ5 → Prop)
    (hx : W P n B w0 x { Q with nrm := fun L' R' => ∃ x0 x1 x2 x3 x4 x5, J x0 x1 x2 x3 x4 x5 ∧ Sub (Lx x0 x1 x2 x3 x4 x5) L' ∧ ∀ w, Hp B w0 w R' → Hp B w0 w (Rx x0 x1 x2 x3 x4 x5) } L R) (hy : ∀ x0 x1 x2 x3 x4 x5, J x0 x1 x2 x3 x4 x5 → W P n B w0 y Q (Lx x0 x1 x2 x3 x4 x5) (Rx x0 x1 x2 x3 x4 x5)) : W P n B w0 (.seq x y) Q L R :=
  w_seq (w_mono hx (fun _ _ ⟨x0, x1, x2, x3, x4, x5, hJ, hL, hR⟩ => w_sub hL hR (hy x0 x1 x2 x3 x4 x5 hJ)) (fun _ _ h => h) (fun _ _ _ h => h))
theorem w_loop7 {σ0 σ1 σ2 σ3 σ4 σ5 σ6 : Type} {c : Code} {Q : PostC} {L : Env} {R : List Row} (Lx : σ0 → σ1 → σ2 → σ3 → σ4 → σ5 → σ6 → Env) (Rx : σ0 → σ1 → σ2 → σ3 → σ4 → σ5 → σ6 → List Row) (J : σ0 → σ1 → σ2 → σ3 → σ4 → σ5 → σ6 → Prop) (μ : σ0 → σ1 → σ2 → σ3 → σ4 → σ5 → σ6 → Nat)
    (h0 : ∃ x0 x1 x2 x3 x4 x5 x6, J x0 x1 x2 x3 x4 x5 x6 ∧ Sub (Lx x0 x1 x2 x3 x4 x5 x6) L ∧ ∀ w, Hp B w0 w R → Hp B w0 w (Rx x0 x1 x2 x3 x4 x5 x6))
    (round : ∀ x0 x1 x2 x3 x4 x5 x6, J x0 x1 x2 x3 x4 x5 x6 → W P n B w0 c { Q with nrm := fun L' R' => ∃ y0 y1 y2 y3 y4 y5 y6, J y0 y1 y2 y3 y4 y5 y6 ∧ μ y0 y1 y2 y3 y4 y5 y6 < μ x0 x1 x2 x3 x4 x5 x6 ∧ Sub (Lx y0 y1 y2 y3 y4 y5 y6) L' ∧ ∀ w, Hp B w0 w R' → Hp B w0 w (Rx y0 y1 y2 y3 y4 y5 y6) } (Lx x0 x1 x2 x3 x4 x5 x6) (Rx x0 x1 x2 x3 x4 x5 x6)) : W P n B w0 (.loop c) Q L R := by
  obtain ⟨x0, x1, x2, x3, x4, x5, x6, h1, h2, h3⟩ := h0
  refine w_loop (σ := σ0 × σ1 × σ2 × σ3 × σ4 × σ5 × σ6) (fun p => Lx p.1 p.2.1 p.2.2.1 p.2.2.2.1 p.2.2.2.2.1 p.2.2.2.2.2.1 p.2.2.2.2.2.2) (fun p => Rx p.1 p.2.1 p.2.2.1 p.2.2.2.1 p.2.2.2.2.1 p.2.2.2.2.2.1 p.2.2.2.2.2.2) (fun p => J p.1 p.2.1 p.2.2.1 p.2.2.2.1 p.2.2.2.2.1 p.2.2.2.2.2.1 p.2.2.2.2.2.2) (fun p => μ p.1 p.2.1 p.2.2.1 p.2.2.2.1 p.2.2.2.2.1 p.2.2.2.2.2.1 p.2.2.2.2.2.2) ⟨(x0, x1, x2, x3, x4, x5, x6), h1, h2, h3⟩ fun p hp => w_mono (round p.1 p.2.1 p.2.2.1 p.2.2.2.1 p.2.2.2.2.1 p.2.2.2.2.2.1 p.2.2.2.2.2.2 hp) ?_ (fun _ _ h => h) (fun _ _ _ h => h)
  rintro L' R' ⟨y0, y1, y2, y3, y4, y5, y6, g1, g2, g3, g4⟩
  exact ⟨(y0, y1, y2, y3, y4, y5, y6), ⟨g1, g2⟩, g3, g4⟩
theorem w_join7 {σ0 σ1 σ2 σ3 σ4 σ5 σ6 : Type} {x y : Code} {Q : PostC} {L : Env} {R : List Row} (Lx : σ0 → σ1 → σ2 → σ3 → σ4 → σ5 → σ6 → Env) (Rx : σ0 → σ1 → σ2 → σ3 → σ4 → σ5 → σ6 → List Row) (J : σ0 → σ1 → σ2 → σ3 → σ4 → σ5 → σ6 → Prop)
    (hx : W P n B w0 x { Q with nrm := fun L' R' => ∃ x0 x1 x2 x3 x4 x5 x6, J x0 x1 x2 x3 x4 x5 x6 ∧ Sub (Lx x0 x1 x2 x3 x4 x5 x6) L' ∧ ∀ w, Hp B w0 w R' → Hp B w0 w (Rx x0 x1 x2 x3 x4 x5 x6) } L R) (hy : ∀ x0 x1 x2 x3 x4 x5 x6, J x0 x1 x2 x3 x4 x5 x6 → W P n B w0 y Q (Lx x0 x1 x2 x3 x4 x5 x6) (Rx x0 x1 x2 x3 x4 x5 x6)) : W P n B w0 (.seq x y) Q L R :=
  w_seq (w_mono hx (fun _ _ ⟨x0, x1, x2, x3, x4, x5, x6, hJ, hL, hR⟩ => w_sub hL hR (hy x0 x1 x2 x3 x4 x5 x6 hJ)) (fun _ _ h => h) (fun _ _ _ h => h))

theorem w_join0 {x y : Code} {Q : PostC} {L : Env} {R : List Row} (L1 : Env) (R1 : List Row)
    (hx : W P n B w0 x { Q with nrm := fun L' R' => Sub L1 L' ∧ ∀ w, Hp B w0 w R' → Hp B w0 w R1 } L R) (hy : W P n B w0 y Q L1 R1) : W P n B w0 (.seq x y) Q L R :=
  w_seq (w_mono hx (fun _ _ ⟨hL, hR⟩ => w_sub hL hR hy) (fun _ _ h => h) (fun _ _ _ h => h))
theorem w_retR {Q : PostC} {L : Env} {R R1 : List Row} (hR : ∀ w, Hp B w0 w R → Hp B w0 w R1) (h : Q.ret L R1) : W P n B w0 .ret Q L R := w_sub (Sub.refl L) hR (w_ret h)
/-! contracts -/
theorem Ct.quiet {f : FuncId} {args : Array Value} {R : List Row} {Q : Value → Prop} (h : ∀ w, Hp B w0 w R → Ct P f args w.heap.size w [] (fun v _ => Q v)) : Ct P f args B w0 R (fun v R' => R' = R ∧ Q v) :=
  fun w hw => (h w hw w (Hp.refl w)).mono fun _ _ ⟨v, _, he, hh, hv⟩ => ⟨v, R, he, (hw.join hh).right, rfl, hv⟩
theorem and_t {p q : Prop} [Decidable p] [Decidable q] (hp : p) : Value.bool (decide q) = Value.bool (decide (p ∧ q)) := by congr 1; simp [hp]
theorem and_f {p q : Prop} [Decidable p] [Decidable q] (hp : ¬ p) : Value.bool false = Value.bool (decide (p ∧ q)) := by congr 1; simp [hp]
theorem or_t {p q : Prop} [Decidable p] [Decidable q] (hp : p) : Value.bool true = Value.bool (decide (p ∨ q)) := by congr 1; simp [hp]
theorem or_f {p q : Prop} [Decidable p] [Decidable q] (hp : ¬ p) : Value.bool (decide q) = Value.bool (decide (p ∨ q)) := by congr 1; simp [hp]
theorem Sub.to {L1 L : Env} {t : Nat} {v u : Value} (h : lk L t = some v) (e : v = u) (hs : Sub L1 L) : Sub ((t, u) :: L1) L := e ▸ Sub.cons h hs
variable {L : Env} {R : List Row} {ty : TypeId}
/-! truth values, strings -/
theorem run_equalIn_bool (w : World) (d : Nat) {t : TypeId} (p q : Bool) (ht : P.underlying t = some .bool) : (Op.equalIn (d + 1) t (.bool p) (.bool q)).run P w = .ok (p == q) w := by
  simp only [Op.equalIn, Sem.run_bind, run_underlying ht, Result.andThen_ok]
  simp
theorem run_eql_bool (w : World) {t : TypeId} (p q : Bool) (ht : P.underlying t = some .bool) : (binOp .eql t (.bool p) (.bool q)).run P w = .ok (.bool (p == q)) w := by
  simp only [binOp, Op.equal, Op.maxDepth, Sem.run_bind, run_equalIn_bool w 9999 p q ht, Result.andThen_ok, Sem.run_pure]
theorem run_neq_bool (w : World) {t : TypeId} (p q : Bool) (ht : P.underlying t = some .bool) : (binOp .neq t (.bool p) (.bool q)).run P w = .ok (.bool !(p == q)) w := by
  simp only [binOp, Op.equal, Op.maxDepth, Sem.run_bind, run_equalIn_bool w 9999 p q ht, Result.andThen_ok, Sem.run_pure]
theorem y_eqB {x y : Operand} {t u : TypeId} {p q : Bool} (ht : P.underlying t = some .bool) (hx : ev L x = some (.bool p)) (hy : ev L y = some (.bool q)) : Yl P n B w0 (.binOp .eql t x y u) ty L R (.bool (decide (p = q))) := by
  intro a w o ho _ hs _
  have : (p == q) = decide (p = q) := by cases p <;> cases q <;> rfl
  simp only [execOp, ho, hs.ev hx, hs.ev hy, Sem.run_bind]
  simp [eqGuard, run_eql_bool w p q ht, this]
theorem y_neB {x y : Operand} {t u : TypeId} {p q : Bool} (ht : P.underlying t = some .bool) (hx : ev L x = some (.bool p)) (hy : ev L y = some (.bool q)) : Yl P n B w0 (.binOp .neq t x y u) ty L R (.bool (decide (p ≠ q))) := by
  intro a w o ho _ hs _
  simp only [execOp, ho, hs.ev hx, hs.ev hy, Sem.run_bind]
  simp [eqGuard, run_neq_bool w p q ht]
  cases p <;> cases q <;> rfl
def ByteL (l : List Int) : Prop := ∀ x ∈ l, 0 ≤ x ∧ x < 256
theorem ByteL.rd {l : List Int} (h : ByteL l) (i : Int) : 0 ≤ rd l i ∧ rd l i < 256 := by
  unfold Eng.rd
  rcases Nat.lt_or_ge i.toNat l.length with h1 | h1
  · rw [List.getD_eq_getElem?_getD, List.getElem?_eq_getElem h1]
    exact h _ (List.getElem_mem h1)
  · rw [List.getD_eq_getElem?_getD, List.getElem?_eq_none h1]
    simp
theorem ByteL.take {l : List Int} (h : ByteL l) (k : Nat) : ByteL (l.take k) := fun x hx => h x (List.mem_of_mem_take hx)
theorem ByteL.drop {l : List Int} (h : ByteL l) (k : Nat) : ByteL (l.drop k) := fun x hx => h x (List.mem_of_mem_drop hx)
theorem ByteL.append {l m : List Int} (h : ByteL l) (h' : ByteL m) : ByteL (l ++ m) := fun x hx => (List.mem_append.1 hx).elim (h x) (h' x)
theorem ByteL.nil : ByteL [] := fun _ h => by cases h
theorem strOfNums_eq {l m : List Int} (hl : ByteL l) (hm : ByteL m) : ((strOfNums l).toList == (strOfNums m).toList) = decide (l = m) := by
  have key : ∀ l : List Int, ByteL l → ((strOfNums l).toList.map fun b => (b.toNat : Int)) = l := by
    intro l hl
    have e : (strOfNums l).toList = l.map fun x => UInt8.ofNat x.toNat := by
      rw [ByteArray.toList_eq]; rfl
    rw [e, List.map_map]
    conv => rhs; rw [← List.map_id l]
    refine List.map_congr_left fun x hx => ?_
    obtain ⟨h0, h1⟩ := hl x hx
    simp only [Function.comp, id]
    rw [UInt8.toNat_ofNat_of_lt' (by simp [UInt8.size]; omega)]
    omega
  by_cases h : l = m
  · subst h; simp
  · have : (strOfNums l).toList ≠ (strOfNums m).toList := fun e => h (by rw [← key l hl, ← key m hm, e])
    simp [h, this]
theorem y_toStr {x : Operand} {s e d : TypeId} {A : Option Addr} {m c : Nat} {l : List Int} (hs' : P.underlying s = some (.slice e)) (he : P.underlying e = some (.int .u8)) (hd : P.underlying d = some .string) (hx : ev L x = some (.slice A m c)) (hr : RdC B w0 R A m c 1 (ints .u8 l)) :
    Yl P n B w0 (.convert s d x) ty L R (.string (strOfNums l)) := by
  intro a w o ho _ hs hp
  have hrd := hr w hp
  have hl := hrd.len
  rw [ints_length, Nat.mul_one] at hl
  have hc : (convert s d (.slice A m c)).run P w = .ok (.string (strOfNums l)) w := by
    rcases A with _ | ad
    · have h0 : l = [] := by
        cases l with
        | nil => rfl
        | cons y l' => obtain ⟨_, h, _⟩ := hrd.at_ 0 (.int .u8 y) (by simp [ints]); cases h
      subst h0
      exact run_convert_bytes_nil w s e hs' he m c d hd
    · have hlc : (loadCells ad m).run P w = .ok (l.map (Value.int .u8)).toArray w := by
        have := run_loadCells_list (P := P) w ad (l.map (Value.int .u8)) (fun j v hj => by
          obtain ⟨a', ha', hcell⟩ := hrd.at_ j v hj
          obtain rfl := Option.some.inj ha'
          exact hcell)
        simpa [hl] using this
      rw [run_convert_bytes_string w s d e _ m c hs' he hd, run_bytesToString w _ m c l hlc, foldl_push_bytes]
      simp [strOfNums, ByteArray.empty, ByteArray.emptyWithCapacity]
      rfl
  simp [execOp, ho, hs.ev hx, hc]
theorem y_eqS {x y : Operand} {t u : TypeId} {p q : ByteArray} (hx : ev L x = some (.string p)) (hy : ev L y = some (.string q)) : Yl P n B w0 (.binOp .eql t x y u) ty L R (.bool (p.toList == q.toList)) := by
  intro a w o ho _ hs _
  simp [execOp, ho, binOp, eqGuard, hs.ev hx, hs.ev hy, Op.stringOp]
theorem y_eqL {x y : Operand} {t u : TypeId} {p q : List Int} (hx : ev L x = some (.string (strOfNums p))) (hy : ev L y = some (.string (strOfNums q))) (hp : ByteL p) (hq : ByteL q) : Yl P n B w0 (.binOp .eql t x y u) ty L R (.bool (decide (p = q))) := by
  have := y_eqS (P := P) (n := n) (B := B) (w0 := w0) (R := R) (ty := ty) (t := t) (u := u) hx hy
  rwa [strOfNums_eq hp hq] at this
theorem y_neL {x y : Operand} {t u : TypeId} {p q : List Int} (hx : ev L x = some (.string (strOfNums p))) (hy : ev L y = some (.string (strOfNums q))) (hp : ByteL p) (hq : ByteL q) : Yl P n B w0 (.binOp .neq t x y u) ty L R (.bool (decide (p ≠ q))) := by
  intro a w o ho _ hs _
  have h := strOfNums_eq hp hq
  have h2 : (!decide (p = q)) = decide (p ≠ q) := by simp
  simp only [execOp, ho, binOp, eqGuard, hs.ev hx, hs.ev hy, Op.stringOp, h, h2]
  simp
/-! a constant's bytes: behind it the row is not written any more -/
theorem a_mark {x : Operand} {t e : TypeId} {r : Row} {g : Nat} (i : Nat) (hi : R[i]? = some r) (hro : r.ro = false) (ht : P.underlying t = some (.slice e)) (he : P.underlying e = some (.int .u8)) (hA : r.A = some ⟨g, 0, none⟩) (hx : ev L x = some (.slice r.A r.n r.c)) :
    Ac P n B w0 (.convert t t x) ty L R (fun v R' => v = .slice r.A r.n r.c ∧ R' = R.set i { r with ro := true }) := by
  intro a w o K Q ho _ hs hp hk
  have hw := Row.lies_w (hp.own r (List.mem_of_getElem? hi)) hro
  rcases hw.2 with ⟨hn, _⟩ | ⟨g', cap, cur, hs', hb, hg, hnc, hcm, hcs, htk⟩
  · rw [hA] at hn; cases hn
  · rw [hA] at hs'
    simp only [Value.slice.injEq, Option.some.injEq, Addr.mk.injEq, and_true, true_and] at hs'
    obtain ⟨rfl, rfl⟩ := hs'
    have hg' : (w.freeze ⟨g, cur.size, none⟩ 1).heap[g]? = some (.cells cur r.e (cur.size, cur.size + 1)) := by
      have hlt : g < w.heap.size := (Array.getElem?_eq_some_iff.1 hg).1
      have hv : w.heap[g] = .cells cur r.e (0, 0) := (Array.getElem?_eq_some_iff.1 hg).2
      simp [World.freeze, hlt, Array.getElem_modify, hv]
    have hoth : ∀ k, k ≠ g → (w.freeze ⟨g, cur.size, none⟩ 1).heap[k]? = w.heap[k]? := by
      intro k hk
      simp [World.freeze, Array.getElem?_modify, Ne.symm hk]
    have hr : (convert t t (.slice r.A r.n r.c)).run P w = .ok (.slice r.A r.n r.c) (w.freeze ⟨g, cur.size, none⟩ 1) := by
      rw [hA]
      simp only [convert, Sem.run_bind, run_underlying ht, Result.andThen_ok, run_underlying he, beq_self_eq_true]
      simp [markStringish, shape, Sem.run, World.shape?, hg, freeze]
    unfold Oper.wp
    simp only [execOp, ho, hs.ev hx, Sem.run_bind, hr, Result.andThen_ok, Sem.run_pure, Oper.upon]
    refine hk _ _ _ ?_ ⟨rfl, rfl⟩
    refine hp.upd hi (row := some g) ⟨by simp [World.freeze], by simp [World.freeze], by simp [World.freeze], by simp [World.freeze], fun k _ hne => hoth k (fun e => hne (by rw [e]))⟩ (by simp [World.freeze]) (fun k hk => ⟨_, hA, by simpa using hk⟩) ?_ (fun a' ha' => .inl ⟨a', ha', rfl⟩)
    unfold Row.lies
    exact ⟨g, cur, _, hA, hb, hg', Nat.le_trans hnc hcm, hnc, hw.1, htk⟩
end
end Go.Eng
