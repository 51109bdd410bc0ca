/- Several texts of our own in one: E13, E14, F8, Q10, Q12, Q36, E25, E15, N1, E18, E21, E24, E26, E16, Q11, Q13, Q15, Q37, E27, F1, N2, S1. -/
import Derived.Stop.BytesEq
import Derived.Lib.BytesEntry
import Derived.Lib.AppendZeros
import Derived.Lib.MakeNoZero
import Derived.Laws.Externs
import Derived.RangeFuncRecord
import Derived.RangeFuncSeq
import Derived.RangeFuncCalls
import Derived.RangeFuncKeeps
import Derived.RangeFuncBox
import Derived.RangeFuncNested
import Derived.Shelf.SlSortCmp.Kit1
import Derived.Ground.SlsfProg
import Derived.Shelf.SlSortCmp.WholeK
import Derived.Test.YtdfcnalkdlifiaaGreatProg
import Derived.Test.YtdfcnalkdlifiaaGreatB1
/-! ## E13 -/
namespace Go.Eng
open Go Go.RowKit
section
variable {P : Program} {n : Nd} {B : Nat} {w0 : World}
theorem w_loop8 {σ0 σ1 σ2 σ3 σ4 σ5 σ6 σ7 : Type} {c : Code} {Q : PostC} {L : Env} {R : List Row} (Lx : σ0 → σ1 → σ2 → σ3 → σ4 → σ5 → σ6 → σ7 → Env) (Rx : σ0 → σ1 → σ2 → σ3 → σ4 → σ5 → σ6 → σ7 → List Row) (J : σ0 → σ1 → σ2 → σ3 → σ4 → σ5 → σ6 → σ7 → Prop) (μ : σ0 → σ1 → σ2 → σ3 → σ4 → σ5 → σ6 → σ7 → Nat)
    (h0 : ∃ x0 x1 x2 x3 x4 x5 x6 x7, J x0 x1 x2 x3 x4 x5 x6 x7 ∧ Sub (Lx x0 x1 x2 x3 x4 x5 x6 x7) L ∧ ∀ w, Hp B w0 w R → Hp B w0 w (Rx x0 x1 x2 x3 x4 x5 x6 x7))
    (round : ∀ x0 x1 x2 x3 x4 x5 x6 x7, J x0 x1 x2 x3 x4 x5 x6 x7 → W P n B w0 c { Q with nrm := fun L' R' => ∃ y0 y1 y2 y3 y4 y5 y6 y7, J y0 y1 y2 y3 y4 y5 y6 y7 ∧ μ y0 y1 y2 y3 y4 y5 y6 y7 < μ x0 x1 x2 x3 x4 x5 x6 x7 ∧ Sub (Lx y0 y1 y2 y3 y4 y5 y6 y7) L' ∧ ∀ w, Hp B w0 w R' → Hp B w0 w (Rx y0 y1 y2 y3 y4 y5 y6 y7) } (Lx x0 x1 x2 x3 x4 x5 x6 x7) (Rx x0 x1 x2 x3 x4 x5 x6 x7)) : W P n B w0 (.loop c) Q L R := by
  obtain ⟨x0, x1, x2, x3, x4, x5, x6, x7, h1, h2, h3⟩ := h0
  refine w_loop (σ := σ0 × σ1 × σ2 × σ3 × σ4 × σ5 × σ6 × σ7) (fun p => Lx p.1 p.2.1 p.2.2.1 p.2.2.2.1 p.2.2.2.2.1 p.2.2.2.2.2.1 p.2.2.2.2.2.2.1 p.2.2.2.2.2.2.2) (fun p => Rx p.1 p.2.1 p.2.2.1 p.2.2.2.1 p.2.2.2.2.1 p.2.2.2.2.2.1 p.2.2.2.2.2.2.1 p.2.2.2.2.2.2.2) (fun p => J p.1 p.2.1 p.2.2.1 p.2.2.2.1 p.2.2.2.2.1 p.2.2.2.2.2.1 p.2.2.2.2.2.2.1 p.2.2.2.2.2.2.2) (fun p => μ p.1 p.2.1 p.2.2.1 p.2.2.2.1 p.2.2.2.2.1 p.2.2.2.2.2.1 p.2.2.2.2.2.2.1 p.2.2.2.2.2.2.2) ⟨(x0, x1, x2, x3, x4, x5, x6, x7), h1, h2, h3⟩ fun p hp => w_mono (round p.1 p.2.1 p.2.2.1 p.2.2.2.1 p.2.2.2.2.1 p.2.2.2.2.2.1 p.2.2.2.2.2.2.1 p.2.2.2.2.2.2.2 hp) ?_ (fun _ _ h => h) (fun _ _ _ h => h)
  rintro L' R' ⟨y0, y1, y2, y3, y4, y5, y6, y7, g1, g2, g3, g4⟩
  exact ⟨(y0, y1, y2, y3, y4, y5, y6, y7), ⟨g1, g2⟩, g3, g4⟩
theorem w_loop9 {σ0 σ1 σ2 σ3 σ4 σ5 σ6 σ7 σ8 : Type} {c : Code} {Q : PostC} {L : Env} {R : List Row} (Lx : σ0 → σ1 → σ2 → σ3 → σ4 → σ5 → σ6 → σ7 → σ8 → Env) (Rx : σ0 → σ1 → σ2 → σ3 → σ4 → σ5 → σ6 → σ7 → σ8 → List Row) (J : σ0 → σ1 → σ2 → σ3 → σ4 → σ5 → σ6 → σ7 → σ8 → Prop) (μ : σ0 → σ1 → σ2 → σ3 → σ4 → σ5 → σ6 → σ7 → σ8 → Nat)
    (h0 : ∃ x0 x1 x2 x3 x4 x5 x6 x7 x8, J x0 x1 x2 x3 x4 x5 x6 x7 x8 ∧ Sub (Lx x0 x1 x2 x3 x4 x5 x6 x7 x8) L ∧ ∀ w, Hp B w0 w R → Hp B w0 w (Rx x0 x1 x2 x3 x4 x5 x6 x7 x8))
    (round : ∀ x0 x1 x2 x3 x4 x5 x6 x7 x8, J x0 x1 x2 x3 x4 x5 x6 x7 x8 → W P n B w0 c { Q with nrm := fun L' R' => ∃ y0 y1 y2 y3 y4 y5 y6 y7 y8, J y0 y1 y2 y3 y4 y5 y6 y7 y8 ∧ μ y0 y1 y2 y3 y4 y5 y6 y7 y8 < μ x0 x1 x2 x3 x4 x5 x6 x7 x8 ∧ Sub (Lx y0 y1 y2 y3 y4 y5 y6 y7 y8) L' ∧ ∀ w, Hp B w0 w R' → Hp B w0 w (Rx y0 y1 y2 y3 y4 y5 y6 y7 y8) } (Lx x0 x1 x2 x3 x4 x5 x6 x7 x8) (Rx x0 x1 x2 x3 x4 x5 x6 x7 x8)) : W P n B w0 (.loop c) Q L R := by
  obtain ⟨x0, x1, x2, x3, x4, x5, x6, x7, x8, h1, h2, h3⟩ := h0
  refine w_loop (σ := σ0 × σ1 × σ2 × σ3 × σ4 × σ5 × σ6 × σ7 × σ8) (fun p => Lx p.1 p.2.1 p.2.2.1 p.2.2.2.1 p.2.2.2.2.1 p.2.2.2.2.2.1 p.2.2.2.2.2.2.1 p.2.2.2.2.2.2.2.1 p.2.2.2.2.2.2.2.2) (fun p => Rx p.1 p.2.1 p.2.2.1 p.2.2.2.1 p.2.2.2.2.1 p.2.2.2.2.2.1 p.2.2.2.2.2.2.1 p.2.2.2.2.2.2.2.1 p.2.2.2.2.2.2.2.2) (fun p => J p.1 p.2.1 p.2.2.1 p.2.2.2.1 p.2.2.2.2.1 p.2.2.2.2.2.1 p.2.2.2.2.2.2.1 p.2.2.2.2.2.2.2.1 p.2.2.2.2.2.2.2.2) (fun p => μ p.1 p.2.1 p.2.2.1 p.2.2.2.1 p.2.2.2.2.1 p.2.2.2.2.2.1 p.2.2.2.2.2.2.1 p.2.2.2.2.2.2.2.1 p.2.2.2.2.2.2.2.2) ⟨(x0, x1, x2, x3, x4, x5, x6, x7, x8), h1, h2, h3⟩ fun p hp => w_mono (round p.1 p.2.1 p.2.2.1 p.2.2.2.1 p.2.2.2.2.1 p.2.2.2.2.2.1 p.2.2.2.2.2.2.1 p.2.2.2.2.2.2.2.1 p.2.2.2.2.2.2.2.2 hp) ?_ (fun _ _ h => h) (fun _ _ _ h => h)
  rintro L' R' ⟨y0, y1, y2, y3, y4, y5, y6, y7, y8, g1, g2, g3, g4⟩
  exact ⟨(y0, y1, y2, y3, y4, y5, y6, y7, y8), ⟨g1, g2⟩, g3, g4⟩
theorem w_loop10 {σ0 σ1 σ2 σ3 σ4 σ5 σ6 σ7 σ8 σ9 : Type} {c : Code} {Q : PostC} {L : Env} {R : List Row} (Lx : σ0 → σ1 → σ2 → σ3 → σ4 → σ5 → σ6 → σ7 → σ8 → σ9 → Env) (Rx : σ0 → σ1 → σ2 → σ3 → σ4 → σ5 → σ6 → σ7 → σ8 → σ9 → List Row) (J : σ0 → σ1 → σ2 → σ3 → σ4 → σ5 → σ6 → σ7 → σ8 → σ9 → Prop) (μ : σ0 → σ1 → σ2 → σ3 → σ4 → σ5 → σ6 → σ7 → σ8 → σ9 → Nat)
    (h0 : ∃ x0 x1 x2 x3 x4 x5 x6 x7 x8 x9, J x0 x1 x2 x3 x4 x5 x6 x7 x8 x9 ∧ Sub (Lx x0 x1 x2 x3 x4 x5 x6 x7 x8 x9) L ∧ ∀ w, Hp B w0 w R → Hp B w0 w (Rx x0 x1 x2 x3 x4 x5 x6 x7 x8 x9))
    (round : ∀ x0 x1 x2 x3 x4 x5 x6 x7 x8 x9, J x0 x1 x2 x3 x4 x5 x6 x7 x8 x9 → W P n B w0 c { Q with nrm := fun L' R' => ∃ y0 y1 y2 y3 y4 y5 y6 y7 y8 y9, J y0 y1 y2 y3 y4 y5 y6 y7 y8 y9 ∧ μ y0 y1 y2 y3 y4 y5 y6 y7 y8 y9 < μ x0 x1 x2 x3 x4 x5 x6 x7 x8 x9 ∧ Sub (Lx y0 y1 y2 y3 y4 y5 y6 y7 y8 y9) L' ∧ ∀ w, Hp B w0 w R' → Hp B w0 w (Rx y0 y1 y2 y3 y4 y5 y6 y7 y8 y9) } (Lx x0 x1 x2 x3 x4 x5 x6 x7 x8 x9) (Rx x0 x1 x2 x3 x4 x5 x6 x7 x8 x9)) : W P n B w0 (.loop c) Q L R := by
  obtain ⟨x0, x1, x2, x3, x4, x5, x6, x7, x8, x9, h1, h2, h3⟩ := h0
  refine w_loop (σ := σ0 × σ1 × σ2 × σ3 × σ4 × σ5 × σ6 × σ7 × σ8 × σ9) (fun p => Lx p.1 p.2.1 p.2.2.1 p.2.2.2.1 p.2.2.2.2.1 p.2.2.2.2.2.1 p.2.2.2.2.2.2.1 p.2.2.2.2.2.2.2.1 p.2.2.2.2.2.2.2.2.1 p.2.2.2.2.2.2.2.2.2) (fun p => Rx p.1 p.2.1 p.2.2.1 p.2.2.2.1 p.2.2.2.2.1 p.2.2.2.2.2.1 p.2.2.2.2.2.2.1 p.2.2.2.2.2.2.2.1 p.2.2.2.2.2.2.2.2.1 p.2.2.2.2.2.2.2.2.2) (fun p => J p.1 p.2.1 p.2.2.1 p.2.2.2.1 p.2.2.2.2.1 p.2.2.2.2.2.1 p.2.2.2.2.2.2.1 p.2.2.2.2.2.2.2.1 p.2.2.2.2.2.2.2.2.1 p.2.2.2.2.2.2.2.2.2) (fun p => μ p.1 p.2.1 p.2.2.1 p.2.2.2.1 p.2.2.2.2.1 p.2.2.2.2.2.1 p.2.2.2.2.2.2.1 p.2.2.2.2.2.2.2.1 p.2.2.2.2.2.2.2.2.1 p.2.2.2.2.2.2.2.2.2) ⟨(x0, x1, x2, x3, x4, x5, x6, x7, x8, x9), h1, h2, h3⟩ fun p hp => w_mono (round p.1 p.2.1 p.2.2.1 p.2.2.2.1 p.2.2.2.2.1 p.2.2.2.2.2.1 p.2.2.2.2.2.2.1 p.2.2.2.2.2.2.2.1 p.2.2.2.2.2.2.2.2.1 p.2.2.2.2.2.2.2.2.2 hp) ?_ (fun _ _ h => h) (fun _ _ _ h => h)
  rintro L' R' ⟨y0, y1, y2, y3, y4, y5, y6, y7, y8, y9, g1, g2, g3, g4⟩
  exact ⟨(y0, y1, y2, y3, y4, y5, y6, y7, y8, y9), ⟨g1, g2⟩, g3, g4⟩
theorem w_loop12 {σ0 σ1 σ2 σ3 σ4 σ5 σ6 σ7 σ8 σ9 σ10 σ11 : Type} {c : Code} {Q : PostC} {L : Env} {R : List Row} (Lx : σ0 → σ1 → σ2 → σ3 → σ4 → σ5 → σ6 → σ7 → σ8 → σ9 → σ10 → σ11 → Env) (Rx : σ0 → σ1 → σ2 → σ3 → σ4 → σ5 → σ6 → σ7 → σ8 → σ9 → σ10 → σ11 → List Row) (J : σ0 → σ1 → σ2 → σ3 → σ4 → σ5 → σ6 → σ7 → σ8 → σ9 → σ10 → σ11 → Prop) (μ : σ0 → σ1 → σ2 → σ3 → σ4 → σ5 → σ6 → σ7 → σ8 → σ9 → σ10 → σ11 → Nat)
    (h0 : ∃ x0 x1 x2 x3 x4 x5 x6 x7 x8 x9 x10 x11, J x0 x1 x2 x3 x4 x5 x6 x7 x8 x9 x10 x11 ∧ Sub (Lx x0 x1 x2 x3 x4 x5 x6 x7 x8 x9 x10 x11) L ∧ ∀ w, Hp B w0 w R → Hp B w0 w (Rx x0 x1 x2 x3 x4 x5 x6 x7 x8 x9 x10 x11))
    (round : ∀ x0 x1 x2 x3 x4 x5 x6 x7 x8 x9 x10 x11, J x0 x1 x2 x3 x4 x5 x6 x7 x8 x9 x10 x11 → W P n B w0 c { Q with nrm := fun L' R' => ∃ y0 y1 y2 y3 y4 y5 y6 y7 y8 y9 y10 y11, J y0 y1 y2 y3 y4 y5 y6 y7 y8 y9 y10 y11 ∧ μ y0 y1 y2 y3 y4 y5 y6 y7 y8 y9 y10 y11 < μ x0 x1 x2 x3 x4 x5 x6 x7 x8 x9 x10 x11 ∧ Sub (Lx y0 y1 y2 y3 y4 y5 y6 y7 y8 y9 y10 y11) L' ∧ ∀ w, Hp B w0 w R' → Hp B w0 w (Rx y0 y1 y2 y3 y4 y5 y6 y7 y8 y9 y10 y11) } (Lx x0 x1 x2 x3 x4 x5 x6 x7 x8 x9 x10 x11) (Rx x0 x1 x2 x3 x4 x5 x6 x7 x8 x9 x10 x11)) : W P n B w0 (.loop c) Q L R := by
  obtain ⟨x0, x1, x2, x3, x4, x5, x6, x7, x8, x9, x10, x11, h1, h2, h3⟩ := h0
  refine w_loop (σ := σ0 × σ1 × σ2 × σ3 × σ4 × σ5 × σ6 × σ7 × σ8 × σ9 × σ10 × σ11) (fun p => Lx p.1 p.2.1 p.2.2.1 p.2.2.2.1 p.2.2.2.2.1 p.2.2.2.2.2.1 p.2.2.2.2.2.2.1 p.2.2.2.2.2.2.2.1 p.2.2.2.2.2.2.2.2.1 p.2.2.2.2.2.2.2.2.2.1 p.2.2.2.2.2.2.2.2.2.2.1 p.2.2.2.2.2.2.2.2.2.2.2) (fun p => Rx p.1 p.2.1 p.2.2.1 p.2.2.2.1 p.2.2.2.2.1 p.2.2.2.2.2.1 p.2.2.2.2.2.2.1 p.2.2.2.2.2.2.2.1 p.2.2.2.2.2.2.2.2.1 p.2.2.2.2.2.2.2.2.2.1 p.2.2.2.2.2.2.2.2.2.2.1 p.2.2.2.2.2.2.2.2.2.2.2) (fun p => J p.1 p.2.1 p.2.2.1 p.2.2.2.1 p.2.2.2.2.1 p.2.2.2.2.2.1 p.2.2.2.2.2.2.1 p.2.2.2.2.2.2.2.1 p.2.2.2.2.2.2.2.2.1 p.2.2.2.2.2.2.2.2.2.1 p.2.2.2.2.2.2.2.2.2.2.1 p.2.2.2.2.2.2.2.2.2.2.2) (fun p => μ p.1 p.2.1 p.2.2.1 p.2.2.2.1 p.2.2.2.2.1 p.2.2.2.2.2.1 p.2.2.2.2.2.2.1 p.2.2.2.2.2.2.2.1 p.2.2.2.2.2.2.2.2.1 p.2.2.2.2.2.2.2.2.2.1 p.2.2.2.2.2.2.2.2.2.2.1 p.2.2.2.2.2.2.2.2.2.2.2) ⟨(x0, x1, x2, x3, x4, x5, x6, x7, x8, x9, x10, x11), h1, h2, h3⟩ fun p hp => w_mono (round p.1 p.2.1 p.2.2.1 p.2.2.2.1 p.2.2.2.2.1 p.2.2.2.2.2.1 p.2.2.2.2.2.2.1 p.2.2.2.2.2.2.2.1 p.2.2.2.2.2.2.2.2.1 p.2.2.2.2.2.2.2.2.2.1 p.2.2.2.2.2.2.2.2.2.2.1 p.2.2.2.2.2.2.2.2.2.2.2 hp) ?_ (fun _ _ h => h) (fun _ _ _ h => h)
  rintro L' R' ⟨y0, y1, y2, y3, y4, y5, y6, y7, y8, y9, y10, y11, g1, g2, g3, g4⟩
  exact ⟨(y0, y1, y2, y3, y4, y5, y6, y7, y8, y9, y10, y11), ⟨g1, g2⟩, g3, g4⟩
theorem w_loop14 {σ0 σ1 σ2 σ3 σ4 σ5 σ6 σ7 σ8 σ9 σ10 σ11 σ12 σ13 : Type} {c : Code} {Q : PostC} {L : Env} {R : List Row} (Lx : σ0 → σ1 → σ2 → σ3 → σ4 → σ5 → σ6 → σ7 → σ8 → σ9 → σ10 → σ11 → σ12 → σ13 → Env) (Rx : σ0 → σ1 → σ2 → σ3 → σ4 → σ5 → σ6 → σ7 → σ8 → σ9 → σ10 → σ11 → σ12 → σ13 → List Row) (J : σ0 → σ1 → σ2 → σ3 → σ4 → σ5 → σ6 → σ7 → σ8 → σ9 → σ10 → σ11 → σ12 → σ13 → Prop) (μ : σ0 → σ1 → σ2 → σ3 → σ4 → σ5 → σ6 → σ7 → σ8 → σ9 → σ10 → σ11 → σ12 → σ13 → Nat)
    (h0 : ∃ x0 x1 x2 x3 x4 x5 x6 x7 x8 x9 x10 x11 x12 x13, J x0 x1 x2 x3 x4 x5 x6 x7 x8 x9 x10 x11 x12 x13 ∧ Sub (Lx x0 x1 x2 x3 x4 x5 x6 x7 x8 x9 x10 x11 x12 x13) L ∧ ∀ w, Hp B w0 w R → Hp B w0 w (Rx x0 x1 x2 x3 x4 x5 x6 x7 x8 x9 x10 x11 x12 x13))
    (round : ∀ x0 x1 x2 x3 x4 x5 x6 x7 x8 x9 x10 x11 x12 x13, J x0 x1 x2 x3 x4 x5 x6 x7 x8 x9 x10 x11 x12 x13 → W P n B w0 c { Q with nrm := fun L' R' => ∃ y0 y1 y2 y3 y4 y5 y6 y7 y8 y9 y10 y11 y12 y13, J y0 y1 y2 y3 y4 y5 y6 y7 y8 y9 y10 y11 y12 y13 ∧ μ y0 y1 y2 y3 y4 y5 y6 y7 y8 y9 y10 y11 y12 y13 < μ x0 x1 x2 x3 x4 x5 x6 x7 x8 x9 x10 x11 x12 x13 ∧ Sub (Lx y0 y1 y2 y3 y4 y5 y6 y7 y8 y9 y10 y11 y12 y13) L' ∧ ∀ w, Hp B w0 w R' → Hp B w0 w (Rx y0 y1 y2 y3 y4 y5 y6 y7 y8 y9 y10 y11 y12 y13) } (Lx x0 x1 x2 x3 x4 x5 x6 x7 x8 x9 x10 x11 x12 x13) (Rx x0 x1 x2 x3 x4 x5 x6 x7 x8 x9 x10 x11 x12 x13)) : W P n B w0 (.loop c) Q L R := by
  obtain ⟨x0, x1, x2, x3, x4, x5, x6, x7, x8, x9, x10, x11, x12, x13, h1, h2, h3⟩ := h0
  refine w_loop (σ := σ0 × σ1 × σ2 × σ3 × σ4 × σ5 × σ6 × σ7 × σ8 × σ9 × σ10 × σ11 × σ12 × σ13) (fun p => Lx p.1 p.2.1 p.2.2.1 p.2.2.2.1 p.2.2.2.2.1 p.2.2.2.2.2.1 p.2.2.2.2.2.2.1 p.2.2.2.2.2.2.2.1 p.2.2.2.2.2.2.2.2.1 p.2.2.2.2.2.2.2.2.2.1 p.2.2.2.2.2.2.2.2.2.2.1 p.2.2.2.2.2.2.2.2.2.2.2.1 p.2.2.2.2.2.2.2.2.2.2.2.2.1 p.2.2.2.2.2.2.2.2.2.2.2.2.2) (fun p => Rx p.1 p.2.1 p.2.2.1 p.2.2.2.1 p.2.2.2.2.1 p.2.2.2.2.2.1 p.2.2.2.2.2.2.1 p.2.2.2.2.2.2.2.1 p.2.2.2.2.2.2.2.2.1 p.2.2.2.2.2.2.2.2.2.1 p.2.2.2.2.2.2.2.2.2.2.1 p.2.2.2.2.2.2.2.2.2.2.2.1 p.2.2.2.2.2.2.2.2.2.2.2.2.1 p.2.2.2.2.2.2.2.2.2.2.2.2.2) (fun p => J p.1 p.2.1 p.2.2.1 p.2.2.2.1 p.2.2.2.2.1 p.2.2.2.2.2.1 p.2.2.2.2.2.2.1 p.2.2.2.2.2.2.2.1 p.2.2.2.2.2.2.2.2.1 p.2.2.2.2.2.2.2.2.2.1 p.2.2.2.2.2.2.2.2.2.2.1 p.2.2.2.2.2.2.2.2.2.2.2.1 p.2.2.2.2.2.2.2.2.2.2.2.2.1 p.2.2.2.2.2.2.2.2.2.2.2.2.2) (fun p => μ p.1 p.2.1 p.2.2.1 p.2.2.2.1 p.2.2.2.2.1 p.2.2.2.2.2.1 p.2.2.2.2.2.2.1 p.2.2.2.2.2.2.2.1 p.2.2.2.2.2.2.2.2.1 p.2.2.2.2.2.2.2.2.2.1 p.2.2.2.2.2.2.2.2.2.2.1 p.2.2.2.2.2.2.2.2.2.2.2.1 p.2.2.2.2.2.2.2.2.2.2.2.2.1 p.2.2.2.2.2.2.2.2.2.2.2.2.2) ⟨(x0, x1, x2, x3, x4, x5, x6, x7, x8, x9, x10, x11, x12, x13), h1, h2, h3⟩ fun p hp => w_mono (round p.1 p.2.1 p.2.2.1 p.2.2.2.1 p.2.2.2.2.1 p.2.2.2.2.2.1 p.2.2.2.2.2.2.1 p.2.2.2.2.2.2.2.1 p.2.2.2.2.2.2.2.2.1 p.2.2.2.2.2.2.2.2.2.1 p.2.2.2.2.2.2.2.2.2.2.1 p.2.2.2.2.2.2.2.2.2.2.2.1 p.2.2.2.2.2.2.2.2.2.2.2.2.1 p.2.2.2.2.2.2.2.2.2.2.2.2.2 hp) ?_ (fun _ _ h => h) (fun _ _ _ h => h)
  rintro L' R' ⟨y0, y1, y2, y3, y4, y5, y6, y7, y8, y9, y10, y11, y12, y13, g1, g2, g3, g4⟩
  exact ⟨(y0, y1, y2, y3, y4, y5, y6, y7, y8, y9, y10, y11, y12, y13), ⟨g1, g2⟩, g3, g4⟩
end
end Go.Eng

/-! ## E14 -/
namespace Go.Eng
open Go Go.RowKit
section
variable {P : Program} {n : Nd} {B : Nat} {w0 : World} {L : Env} {R : List Row} {ty : TypeId}
end
end Go.Eng

/-! ## F8 -/
namespace Go.Proofs.YtdfcnalkdlifiaaGreat
open Go Go.Eng Go.Pure
set_option linter.unusedVariables false
set_option maxRecDepth 100000 in
theorem turn4_ct {w : World} {A_u : Option Addr} {n_u c_u : Nat} {u : List Int} {i : Int} (h_u : Rd w A_u n_u c_u 1 (ints .u8 u)) (hi : 0 ≤ i ∧ i ≤ u.length) (hN : u.length ≤ 1000000) :
    Ct Tryz.prog 44 #[.slice A_u n_u c_u, .int .i64 i] w.heap.size w [] (fun v R' => ∃ A c, v = .slice A (u.drop i.toNat ++ u.take i.toNat).length c ∧ R' = [⟨5, 1, A, (u.drop i.toNat ++ u.take i.toNat).length, c, ints .u8 (u.drop i.toNat ++ u.take i.toNat), false⟩]) := by
  obtain rfl := h_u.lenI
  refine fn1 Tryz.func44 rfl rfl rfl ?_
  have m_u := h_u.max
  refine w_seq ?_
  refine w_reg ?_
  refine wr_y rfl (y_assign rfl) ?_
  refine wr_nil ?_
  refine w_seq ?_
  refine w_regd mixed ?_
  refine wd_y 1 rfl (by kernel_rfl) rfl (y_move rfl) ?_
  refine wd_y 2 rfl (by kernel_rfl) rfl (y_move rfl) ?_
  refine wd_y 3 rfl (by kernel_rfl) rfl (y_sliceFrom Tryz.underlying23 sz5 rfl rfl (by omega) (by omega)) ?_
  refine wd_y 5 rfl (by kernel_rfl) rfl (y_move rfl) ?_
  refine wd_y 6 rfl (by kernel_rfl) rfl (y_move rfl) ?_
  refine wd_y 7 rfl (by kernel_rfl) rfl (y_sliceTo Tryz.underlying23 sz5 rfl rfl (h_u.c _) (by omega) (by omega)) ?_
  refine wd_a 0 rfl (by kernel_rfl) rfl (a_litI .u8 [] Tryz.underlying23 zs5 rfl rfl rfl) ?_
  rintro _ _ ⟨g_2, rfl, rfl⟩
  refine ⟨.inr fun _ h => h.right (R' := [_]), ?_⟩
  refine wd_a 4 rfl (by kernel_rfl) rfl (a_appendI 0 rfl Tryz.underlying23 zb5 rfl rfl rfl (RdC.fromI (h_u.c _) (by omega)) (by omega)) ?_
  rintro _ _ ⟨A_3, c_4, rfl, rfl⟩
  refine ⟨.inl (by kernel_rfl), ?_⟩
  refine wd_rows (R1 := [⟨5, 1, A_3, (0 + (u.length - (i).toNat)), c_4, ints .u8 (([]) ++ ((u).drop (i).toNat)), false⟩]) rfl ?_
  refine wd_as (v := .slice A_3 (0 + (u.length - (i).toNat)) c_4) rfl ?_
  refine wd_a 8 rfl (by kernel_rfl) rfl (a_appendI 0 rfl Tryz.underlying23 zb5 rfl rfl rfl (RdC.toI (h_u.c _) (by omega)) (by omega)) ?_
  rintro _ _ ⟨A_5, c_6, rfl, rfl⟩
  refine ⟨.inl (by kernel_rfl), ?_⟩
  refine wd_rows (R1 := [⟨5, 1, A_5, ((0 + (u.length - (i).toNat)) + ((i).toNat)), c_6, ints .u8 ((([]) ++ ((u).drop (i).toNat)) ++ ((u).take (i).toNat)), false⟩]) rfl ?_
  refine wd_as (v := .slice A_5 ((0 + (u.length - (i).toNat)) + ((i).toNat)) c_6) rfl ?_
  refine wd_y 9 rfl (by kernel_rfl) rfl (y_assign rfl) ?_
  refine wd_nil (by kernel_rfl) ?_
  refine w_retR (R1 := [⟨5, 1, A_5, ((0 + (u.length - (i).toNat)) + ((i).toNat)), c_6, ints .u8 ((([]) ++ ((u).drop (i).toNat)) ++ ((u).take (i).toNat)), false⟩]) (fun _ h => h.sel [0] (by decide) rfl) ?_
  refine ⟨_, rfl, ?_⟩
  have e : (0 + (u.length - i.toNat) + i.toNat) = (u.drop i.toNat ++ u.take i.toNat).length := by rw [List.length_append, List.length_drop, List.length_take]; omega
  simp only [List.nil_append, e]
  exact ⟨_, _, rfl, rfl⟩

end Go.Proofs.YtdfcnalkdlifiaaGreat

/-! ## Q10 -/
namespace Go.Pure
open Go Go.Eng
theorem Lt.of_H {H : Nat} {U V : Nat → Int} (h : LtH H U V) : Lt U V := by
  obtain ⟨k, _, r⟩ := h
  exact ⟨k, r⟩
theorem lt_tri (U V : Nat → Int) : Lt U V ∨ (∀ i, U i = V i) ∨ Lt V U := by
  by_cases h : ∀ i, U i = V i
  · exact .inr (.inl h)
  · obtain ⟨k, hk⟩ := Classical.not_forall.1 h
    rcases tri (k + 1) U V with a | a | a
    · exact .inl (Lt.of_H a)
    · exact absurd (a k (by omega)) hk
    · exact .inr (.inr (Lt.of_H a))
theorem Lt.asymm {U V : Nat → Int} (h : Lt U V) : ¬ Lt V U := by
  obtain ⟨k, h1, hl⟩ := h
  rintro ⟨m, h2, hl'⟩
  by_cases a : k < m
  · have := h2 k a; omega
  · by_cases b : m < k
    · have := h1 m b; omega
    · have : k = m := by omega
      subst this; omega
theorem Lt.not_eq {U V : Nat → Int} (h : Lt U V) : ¬ ∀ i, U i = V i := fun e => by
  obtain ⟨k, _, hl⟩ := h
  have := e k
  omega
theorem ordO_of_not {ws : List (List Int)} {t u : Int × Int} (h : ¬ Lt (tw ws t) (tw ws u)) (hi : ltI u t) : ordO ws u t := by
  rcases lt_tri (tw ws u) (tw ws t) with a | a | a
  · exact .inl a
  · exact .inr ⟨a, hi⟩
  · exact absurd a h
theorem ordO_asymm {ws : List (List Int)} (t u : Int × Int) (h : ordO ws t u) : ¬ ordO ws u t := by
  rcases h with h | ⟨e, h⟩
  · rintro (g | ⟨e, g⟩)
    · exact h.asymm g
    · exact h.not_eq fun i => (e i).symm
  · rintro (g | ⟨e', g⟩)
    · exact g.not_eq fun i => (e i).symm
    · unfold ltI at h g; omega
theorem ordO_trans {ws : List (List Int)} {t u v : Int × Int} (h : ordO ws t u) (g : ordO ws u v) : ordO ws t v := by
  rcases h with ⟨k, h1, hl⟩ | ⟨e, h⟩
  · rcases g with g | ⟨e', _⟩
    · exact .inl (Lt.trans ⟨k, h1, hl⟩ g)
    · exact .inl ⟨k, fun i hi => (h1 i hi).trans (e' i), by rw [← e' k]; exact hl⟩
  · rcases g with ⟨k, h1, hl⟩ | ⟨e', g⟩
    · exact .inl ⟨k, fun i hi => (e i).trans (h1 i hi), by rw [e k]; exact hl⟩
    · exact .inr ⟨fun i => (e i).trans (e' i), by unfold ltI at *; omega⟩
/-- A new one, put between those ahead of it and those behind. -/
theorem ins_sorted {ws : List (List Int)} {l : List (Int × Int)} {x : Int × Int} {j : Nat} (hp : l.Pairwise (ordO ws)) (h1 : ∀ y ∈ l.take j, ordO ws y x) (h2 : ∀ y ∈ l.drop j, ordO ws x y) : (l.take j ++ [x] ++ l.drop j).Pairwise (ordO ws) := by
  have hs : (l.take j ++ l.drop j).Pairwise (ordO ws) := by rw [List.take_append_drop]; exact hp
  obtain ⟨a, b, c⟩ := List.pairwise_append.1 hs
  refine List.pairwise_append.2 ⟨List.pairwise_append.2 ⟨a, List.pairwise_singleton _ _, fun y hy z hz => ?_⟩, b, fun y hy z hz => ?_⟩
  · obtain rfl := List.mem_singleton.1 hz
    exact h1 y hy
  · rcases List.mem_append.1 hy with hy | hy
    · exact c y hy z hz
    · obtain rfl := List.mem_singleton.1 hy
      exact h2 z hz
theorem ins_perm {α : Type} {l : List α} {x : α} {j : Nat} : (l.take j ++ [x] ++ l.drop j).Perm (l ++ [x]) := by
  have h : (l.take j ++ [x] ++ l.drop j).Perm (l.take j ++ l.drop j ++ [x]) := by
    rw [List.append_assoc, List.append_assoc]
    exact List.Perm.append_left _ List.perm_append_comm
  rwa [List.take_append_drop] at h
/-- All ahead of the place, if the last of them is. -/
theorem ahead_all {ws : List (List Int)} {l : List (Int × Int)} {x : Int × Int} {j : Int} (hp : l.Pairwise (ordO ws)) (h0 : 0 < j) (hj : j ≤ l.length) (h : ordO ws (rdp l (j - 1)) x) : ∀ y ∈ l.take j.toNat, ordO ws y x := by
  intro y hy
  obtain ⟨i, hi, rfl⟩ := List.mem_iff_getElem.1 hy
  rw [List.length_take] at hi
  rw [List.getElem_take]
  have hlast : (j - 1).toNat < l.length := by omega
  have e : rdp l (j - 1) = l[(j - 1).toNat] := by
    unfold rdp
    rw [List.getD_eq_getElem?_getD, List.getElem?_eq_getElem hlast]
    rfl
  rw [e] at h
  rcases Nat.lt_or_ge i (j - 1).toNat with a | a
  · exact ordO_trans (List.pairwise_iff_getElem.1 hp i (j - 1).toNat (by omega) hlast a) h
  · have : i = (j - 1).toNat := by omega
    subst this
    exact h
theorem cmp_turn {ws : List (List Int)} {t u : Int × Int} (ht : TV ws t) (hu : TV ws u) : cmpO ((rdl ws t.1).drop t.2.toNat ++ (rdl ws t.1).take t.2.toNat) ((rdl ws u.1).drop u.2.toNat ++ (rdl ws u.1).take u.2.toNat) < 0 ↔ Lt (tw ws t) (tw ws u) := by
  have e1 : om ((rdl ws t.1).drop t.2.toNat ++ (rdl ws t.1).take t.2.toNat) = tw ws t := funext (om_tw ht)
  have e2 : om ((rdl ws u.1).drop u.2.toNat ++ (rdl ws u.1).take u.2.toNat) = tw ws u := funext (om_tw hu)
  have l1 : 0 < ((rdl ws t.1).drop t.2.toNat ++ (rdl ws t.1).take t.2.toNat).length := by
    obtain ⟨a, b, c, d⟩ := ht
    rw [List.length_append, List.length_drop, List.length_take]; omega
  have l2 : 0 < ((rdl ws u.1).drop u.2.toNat ++ (rdl ws u.1).take u.2.toNat).length := by
    obtain ⟨a, b, c, d⟩ := hu
    rw [List.length_append, List.length_drop, List.length_take]; omega
  rw [cmpO_neg l1 l2, e1, e2]
end Go.Pure

/-! ## Q12 -/
namespace Go.Pure
open Go Go.Eng
/-- A word told by its letters is less than all its endings. -/
def Lyn (f : Nat → Int) (p : Nat) : Prop := 0 < p ∧ ∀ r, 0 < r → r < p → ∃ d, r + d < p ∧ (∀ e, e < d → f e = f (r + e)) ∧ f d < f (r + d)
def Perj (f : Nat → Int) (p j : Nat) : Prop := ∀ i, i + p < j → f (i + p) = f i
/-- The word itself, at each letter. -/
def lt (s : List Int) (i : Nat) : Int := s.getD i 0
theorem cmpL_neg_iff : ∀ (u v : List Int), v.length < u.length → (cmpL u v < 0 ↔ ∃ d, d < v.length ∧ (∀ e, e < d → lt u e = lt v e) ∧ lt u d < lt v d)
  | [], v, h => by simp at h
  | a :: u, [], h => by simp [cmpL]
  | a :: u, b :: v, h => by
    have ih := cmpL_neg_iff u v (by simpa using h)
    rw [cmpL]
    rcases Int.lt_trichotomy a b with c | c | c
    · rw [if_pos c]
      exact ⟨fun _ => ⟨0, by simp, fun e he => by omega, c⟩, fun _ => by omega⟩
    · subst c
      rw [if_neg (by omega), if_neg (by omega), ih]
      constructor
      · rintro ⟨d, h1, h2, h3⟩
        refine ⟨d + 1, by simpa using h1, fun e he => ?_, h3⟩
        cases e with
        | zero => rfl
        | succ e => exact h2 e (by omega)
      · rintro ⟨d, h1, h2, h3⟩
        cases d with
        | zero => exact absurd h3 (by simp [lt])
        | succ d => exact ⟨d, by simpa using h1, fun e he => h2 (e + 1) (by omega), h3⟩
    · rw [if_neg (by omega), if_pos c]
      refine ⟨fun h => by omega, ?_⟩
      rintro ⟨d, h1, h2, h3⟩
      cases d with
      | zero => have : a < b := h3; omega
      | succ d => have : a = b := h2 0 (by omega); omega
theorem lt_drop (s : List Int) (a i : Nat) : lt (s.drop a) i = lt s (a + i) := by simp [lt, List.getD_eq_getElem?_getD]
theorem lt_take {s : List Int} {a i : Nat} (h : i < a) : lt (s.take a) i = lt s i := by simp [lt, List.getD_eq_getElem?_getD, h]
theorem lt_rd {s : List Int} {i : Int} : rd s i = lt s i.toNat := rfl
/-- Is a text less than all its endings? -/
def LynB (s : List Int) : Bool := !s.isEmpty && (List.range s.length).all fun r => Nat.beq r 0 || decide (cmpL s (s.drop r) < 0)
theorem LynB_iff (s : List Int) : LynB s = true ↔ 0 < s.length ∧ ∀ r : Nat, 0 < r → r < s.length → cmpL s (s.drop r) < 0 := by
  unfold LynB
  rw [Bool.and_eq_true, List.all_eq_true]
  have e : (!s.isEmpty) = true ↔ 0 < s.length := by cases s <;> simp
  rw [e]
  refine and_congr_right fun _ => ⟨fun h r h0 hr => ?_, fun h r hr => ?_⟩
  · have := h r (List.mem_range.2 hr)
    rw [Bool.or_eq_true, decide_eq_true_iff] at this
    rcases this with a | a
    · have := Nat.eq_of_beq_eq_true a; omega
    · exact a
  · rw [Bool.or_eq_true, decide_eq_true_iff]
    rcases Nat.eq_zero_or_pos r with a | a
    · left; subst a; rfl
    · exact .inr (h r a (List.mem_range.1 hr))
/-- The longest beginning that is less than all its endings: from n down. -/
def lynLen (s : List Int) : Nat → Nat
  | 0 => 0
  | n + 1 => if LynB (s.take (n + 1)) then n + 1 else lynLen s n
theorem lynLen_eq {s : List Int} {p : Nat} (h : LynB (s.take p) = true) : ∀ n, p ≤ n → (∀ m, p < m → m ≤ n → LynB (s.take m) = false) → lynLen s n = p
  | 0, hp, _ => by unfold lynLen; omega
  | n + 1, hp, hn => by
    unfold lynLen
    rcases Nat.lt_or_ge p (n + 1) with a | a
    · rw [hn (n + 1) a (Nat.le_refl _)]
      simp only [Bool.false_eq_true, if_false]
      exact lynLen_eq h n (by omega) fun m h1 h2 => hn m h1 (by omega)
    · have : p = n + 1 := by omega
      subst this
      rw [h, if_pos rfl]
theorem lynB_one (s : List Int) (h : 0 < s.length) : LynB (s.take 1) = true := by
  cases s with
  | nil => simp at h
  | cons a s => rfl
theorem lynLen_pos {s : List Int} (h : 0 < s.length) : ∀ n, 0 < n → 0 < lynLen s n
  | n + 1, _ => by
    unfold lynLen
    split
    · omega
    · rename_i hh
      cases n with
      | zero => exact absurd (lynB_one s h) hh
      | succ n => exact lynLen_pos h (n + 1) (by omega)
/-- How long the texts are that a text falls into. -/
def facs : Nat → List Int → List Int
  | 0, _ => []
  | f + 1, s => if s.isEmpty then [] else (lynLen s s.length : Int) :: facs f (s.drop (lynLen s s.length))
def facL (s : List Int) : List Int := facs s.length s
theorem facs_fuel : ∀ (f g : Nat) (s : List Int), s.length ≤ f → s.length ≤ g → facs f s = facs g s
  | 0, g, s, h, _ => by
    have : s = [] := List.length_eq_zero_iff.1 (by omega)
    subst this
    cases g <;> rfl
  | f + 1, 0, s, _, h => by
    have : s = [] := List.length_eq_zero_iff.1 (by omega)
    subst this
    rfl
  | f + 1, g + 1, s, h1, h2 => by
    unfold facs
    cases s with
    | nil => rfl
    | cons a s =>
      simp only [List.isEmpty_cons, Bool.false_eq_true, if_false]
      have := lynLen_pos (s := a :: s) (by simp) (a :: s).length (by simp)
      rw [facs_fuel f g _ (by rw [List.length_drop]; omega) (by rw [List.length_drop]; omega)]
theorem facL_nil {s : List Int} (h : s.length = 0) : facL s = [] := by
  have : s = [] := List.length_eq_zero_iff.1 h
  subst this
  rfl
theorem facL_cons {s : List Int} (h : 0 < s.length) : facL s = (lynLen s s.length : Int) :: facL (s.drop (lynLen s s.length)) := by
  unfold facL
  cases s with
  | nil => simp at h
  | cons a s =>
    rw [show (a :: s).length = s.length + 1 from rfl, facs]
    simp only [List.isEmpty_cons, Bool.false_eq_true, if_false]
    have := lynLen_pos (s := a :: s) (by simp) (a :: s).length (by simp)
    rw [show s.length + 1 = (a :: s).length from rfl]
    congr 1
    exact facs_fuel _ _ _ (by rw [List.length_drop]; simp only [List.length_cons] at *; omega) (Nat.le_refl _)
section
variable {s : List Int} {a i j b : Int}
def LynAt (s : List Int) (a p : Int) : Prop := Lyn (fun e => lt s (a.toNat + e)) p.toNat
def PerAt (s : List Int) (a p n : Int) : Prop := Perj (fun e => lt s (a.toNat + e)) p.toNat n.toNat
end
end Go.Pure

/-! ## Q36 -/
namespace Go.Pure
open Go Go.Eng
theorem cmpL_same : ∀ {a b : List Int}, a.length = b.length → (cmpL a b < 0 ↔ ∃ d, d < a.length ∧ (∀ e, e < d → lt a e = lt b e) ∧ lt a d < lt b d)
  | [], [], _ => by simp [cmpL]
  | x :: a, y :: b, h => by
    have ih := cmpL_same (a := a) (b := b) (by simpa using h)
    rw [cmpL]
    rcases Int.lt_trichotomy x y with c | c | c
    · rw [if_pos c]
      exact ⟨fun _ => ⟨0, by simp, fun e he => by omega, c⟩, fun _ => by omega⟩
    · subst c
      rw [if_neg (by omega), if_neg (by omega), ih]
      constructor
      · rintro ⟨d, h1, h2, h3⟩
        refine ⟨d + 1, by simpa using h1, fun e he => ?_, h3⟩
        cases e with
        | zero => rfl
        | succ e => exact h2 e (by omega)
      · rintro ⟨d, h1, h2, h3⟩
        cases d with
        | zero => exact absurd h3 (by simp [lt])
        | succ d => exact ⟨d, by simpa using h1, fun e he => h2 (e + 1) (by omega), h3⟩
    · rw [if_neg (by omega), if_pos c]
      refine ⟨fun h => by omega, ?_⟩
      rintro ⟨d, h1, h2, h3⟩
      cases d with
      | zero => have : x < y := h3; omega
      | succ d => have : x = y := h2 0 (by omega); omega
section
variable {s : List Int}
/-- A rotation, without end. -/
def rot (s : List Int) (r d : Nat) : Int := om s (r + d)
def turnS (s : List Int) (r : Int) : List Int := s.drop r.toNat ++ s.take r.toNat
theorem turnS_len (s : List Int) (r : Int) : (turnS s r).length = s.length := by unfold turnS; rw [List.length_append, List.length_drop, List.length_take]; omega
theorem turnS_at {r d : Nat} (hr : r ≤ s.length) (hd : d < s.length) : lt (turnS s r) d = rot s r d := by
  unfold turnS lt rot om
  rw [Int.toNat_natCast]
  rcases Nat.lt_or_ge (r + d) s.length with g | g
  · rw [List.getD_eq_getElem?_getD, List.getElem?_append_left (by rw [List.length_drop]; omega), List.getElem?_drop, Nat.mod_eq_of_lt g, ← List.getD_eq_getElem?_getD]
  · rw [List.getD_eq_getElem?_getD, List.getElem?_append_right (by rw [List.length_drop]; omega), List.length_drop, List.getElem?_take_of_lt (by omega), show (r + d) % s.length = d - (s.length - r) by rw [Nat.mod_eq_sub_mod g, Nat.mod_eq_of_lt (by omega)]; omega, ← List.getD_eq_getElem?_getD]
theorem rot_per (r : Nat) : Per (rot s r) s.length := fun d => by
  unfold rot
  rw [← Nat.add_assoc]
  exact om_per s _
theorem rot_mod (r : Nat) : rot s (r % s.length) = rot s r := by
  funext d
  unfold rot om
  rw [Nat.mod_add_mod]
theorem rot_same {r q : Nat} (hn : 0 < s.length) (h : ∀ d, d < s.length → rot s r d = rot s q d) : rot s r = rot s q := by
  funext d
  rw [← (rot_per r).mod d, ← (rot_per q).mod d]
  exact h _ (Nat.mod_lt _ hn)
theorem rot_lt {r q : Nat} (hr : r ≤ s.length) (hq : q ≤ s.length) : cmpL (turnS s r) (turnS s q) < 0 ↔ Lt (rot s r) (rot s q) := by
  rw [cmpL_same (by rw [turnS_len, turnS_len]), turnS_len]
  constructor
  · rintro ⟨d, h1, h2, h3⟩
    refine ⟨d, fun e he => ?_, ?_⟩
    · rw [← turnS_at hr (by omega), ← turnS_at hq (by omega)]; exact h2 e he
    · rw [← turnS_at hr h1, ← turnS_at hq h1]; exact h3
  · rintro ⟨d, h2, h3⟩
    rcases Nat.lt_or_ge d s.length with g | g
    · refine ⟨d, g, fun e he => ?_, ?_⟩
      · rw [turnS_at hr (by omega), turnS_at hq (by omega)]; exact h2 e he
      · rw [turnS_at hr g, turnS_at hq g]; exact h3
    · exfalso
      rcases Nat.eq_zero_or_pos s.length with z | z
      · have : ∀ r d, rot s r d = 0 := fun r d => by
          unfold rot om
          rw [List.eq_nil_of_length_eq_zero z]; rfl
        rw [this, this] at h3; omega
      · have := rot_same z fun e he => h2 e (by omega)
        rw [this] at h3; omega
/-- The first rotation that is not more than any. -/
structure FL (s : List Int) (b : Nat) : Prop where
  lt : b < s.length
  le : ∀ r, r < s.length → ¬ Lt (rot s r) (rot s b)
  first : ∀ r, r < b → Lt (rot s b) (rot s r)
theorem FL.any {b : Nat} (h : FL s b) (r : Nat) : ¬ Lt (rot s r) (rot s b) := by
  rw [← rot_mod r]
  exact h.le _ (Nat.mod_lt _ (by have := h.lt; omega))
theorem FL.one {b c : Nat} (h : FL s b) (g : FL s c) : b = c := by
  rcases Nat.lt_trichotomy b c with a | a | a
  · exact absurd (g.first b a) (h.any c)
  · exact a
  · exact absurd (h.first c a) (g.any b)
/-- As it is found one by one. -/
def lrotK (s : List Int) : Nat → Nat
  | 0 => 0
  | r + 1 => if cmpL (turnS s r) (turnS s (lrotK s r)) < 0 then r else lrotK s r
theorem lrotK_ok : ∀ n : Nat, 0 < n → n ≤ s.length → lrotK s n < n ∧ (∀ r, r < n → ¬ Lt (rot s r) (rot s (lrotK s n))) ∧ ∀ r, r < lrotK s n → Lt (rot s (lrotK s n)) (rot s r)
  | 1, _, h => by
    have e : lrotK s 1 = 0 := by
      rw [lrotK, lrotK]
      split <;> rfl
    rw [e]
    exact ⟨by omega, fun r hr => by obtain rfl : r = 0 := (by omega); exact fun h => h.asymm h, fun r hr => by omega⟩
  | n + 2, _, h => by
    have ih := lrotK_ok (n + 1) (by omega) (by omega)
    rw [lrotK]
    split
    · rename_i c
      rw [rot_lt (by omega) (by omega)] at c
      refine ⟨by omega, fun r hr => ?_, fun r hr => ?_⟩
      · rcases Nat.lt_or_ge r (n + 1) with g | g
        · exact fun hlt => ih.2.1 r g (hlt.trans c)
        · obtain rfl : r = n + 1 := by omega
          exact fun h => h.asymm h
      · rcases lt_tri (rot s (n + 1)) (rot s r) with a | a | a
        · exact a
        · exact absurd (by rw [← funext a]; exact c) (ih.2.1 r hr)
        · exact absurd (a.trans c) (ih.2.1 r hr)
    · rename_i c
      rw [rot_lt (by omega) (by omega)] at c
      refine ⟨by omega, fun r hr => ?_, ih.2.2⟩
      rcases Nat.lt_or_ge r (n + 1) with g | g
      · exact ih.2.1 r g
      · obtain rfl : r = n + 1 := by omega
        exact c
def lrot (s : List Int) : Int := lrotK s s.length
theorem lrot_FL (hn : 0 < s.length) : FL s (lrotK s s.length) := by
  have h := lrotK_ok (s := s) s.length hn (Nat.le_refl _)
  exact ⟨h.1, h.2.1, h.2.2⟩
theorem lrot_bd (s : List Int) : 0 ≤ lrot s ∧ lrot s ≤ s.length ∧ (0 < s.length → lrot s < s.length) := by
  unfold lrot
  rcases Nat.eq_zero_or_pos s.length with z | z
  · rw [z]; exact ⟨by omega, by show ((0 : Nat) : Int) ≤ _; omega, fun h => by omega⟩
  · have := (lrot_FL z).lt
    omega
/-- Two places, and how much they have alike. -/
structure LA (s : List Int) (b : Nat) (i j k : Int) : Prop where
  i0 : 0 ≤ i
  j0 : 0 ≤ j
  k0 : 0 ≤ k
  ne : i ≠ j
  agr : ∀ e : Nat, (e : Int) < k → rot s i.toNat e = rot s j.toNat e
  hb : (b : Int) = i ∨ (b : Int) = j ∨ (i < b ∧ j < b)
theorem LA.init (b : Nat) : LA s b 0 1 0 := ⟨by omega, by omega, by omega, by omega, fun e he => by omega, by omega⟩
variable {b : Nat} {i j k : Int}
theorem LA.swap (h : LA s b i j k) : LA s b j i k := ⟨h.j0, h.i0, h.k0, h.ne.symm, fun e he => (h.agr e he).symm, by have := h.hb; omega⟩
theorem LA.eq (h : LA s b i j k) (he : rot s i.toNat k.toNat = rot s j.toNat k.toNat) : LA s b i j (k + 1) :=
  ⟨h.i0, h.j0, by have := h.k0; omega, h.ne, fun e he' => by
    rcases Int.lt_or_le e k with g | g
    · exact h.agr e g
    · have := h.k0
      obtain rfl : e = k.toNat := by omega
      exact he, h.hb⟩
theorem LA.out (h : LA s b i j k) (fl : FL s b) (hgt : rot s j.toNat k.toNat < rot s i.toNat k.toNat) : ¬ (i ≤ b ∧ (b : Int) ≤ i + k) := fun hc => by
  have i0 := h.i0
  have k0 := h.k0
  obtain ⟨t, ht⟩ : ∃ t : Nat, b = i.toNat + t := ⟨b - i.toNat, by omega⟩
  refine fl.any (j.toNat + t) ⟨k.toNat - t, fun e he => ?_, ?_⟩
  · have := h.agr (t + e) (by omega)
    unfold rot at this ⊢
    rw [ht, Nat.add_assoc, Nat.add_assoc]
    exact this.symm
  · unfold rot at hgt ⊢
    rw [ht, Nat.add_assoc, Nat.add_assoc, show t + (k.toNat - t) = k.toNat by omega]
    exact hgt
theorem LA.gt (h : LA s b i j k) (fl : FL s b) (hgt : rot s j.toNat k.toNat < rot s i.toNat k.toNat) : (i + (k + 1) ≠ j → LA s b (i + (k + 1)) j 0) ∧ (i + (k + 1) = j → LA s b (i + (k + 1)) (j + 1) 0) := by
  have ho := h.out fl hgt
  have hb := h.hb
  have i0 := h.i0
  have j0 := h.j0
  have k0 := h.k0
  exact ⟨fun hne => ⟨by omega, j0, by omega, hne, fun e he => by omega, by omega⟩, fun he => ⟨by omega, by omega, by omega, by omega, fun e he => by omega, by omega⟩⟩
theorem LA.lt (h : LA s b i j k) (fl : FL s b) (hlt : rot s i.toNat k.toNat < rot s j.toNat k.toNat) : (i ≠ j + (k + 1) → LA s b i (j + (k + 1)) 0) ∧ (i = j + (k + 1) → LA s b i (j + (k + 1) + 1) 0) := by
  have ho := h.swap.out fl hlt
  have hb := h.hb
  have i0 := h.i0
  have j0 := h.j0
  have k0 := h.k0
  exact ⟨fun hne => ⟨i0, by omega, by omega, hne, fun e he => by omega, by omega⟩, fun he => ⟨by omega, by omega, by omega, by omega, fun e he => by omega, by omega⟩⟩
theorem LA.same (h : LA s b i j k) (fl : FL s b) (hn : (s.length : Int) ≤ k) : min i j = b := by
  have i0 := h.i0
  have j0 := h.j0
  have hlt := fl.lt
  have he : rot s i.toNat = rot s j.toNat := rot_same (by omega) fun d hd => h.agr d (by omega)
  have hne := h.ne
  have no : ∀ x : Nat, x < b → rot s x ≠ rot s b := fun x hx e => (fl.first x hx).not_eq fun d => by rw [e]
  rcases h.hb with e | e | ⟨e1, e2⟩
  · rcases Int.lt_or_le j i with g | g
    · exact absurd (by rw [show b = i.toNat by omega]; exact he.symm) (no j.toNat (by omega))
    · omega
  · rcases Int.lt_or_le i j with g | g
    · exact absurd (by rw [show b = j.toNat by omega]; exact he) (no i.toNat (by omega))
    · omega
  · exfalso
    have key : ∀ lo hi : Nat, lo < hi → hi < b → rot s lo = rot s hi → False := fun lo hi h1 h2 e => by
      refine no (lo + (b - hi)) (by omega) ?_
      funext d
      have := congrFun e ((b - hi) + d)
      unfold rot at this ⊢
      rw [Nat.add_assoc, this]
      congr 1
      omega
    rcases Int.lt_or_le i j with g | g
    · exact key i.toNat j.toNat (by omega) (by omega) he
    · exact key j.toNat i.toNat (by omega) (by omega) he.symm
theorem LA.done (h : LA s b i j k) (fl : FL s b) (hc : ¬ (i < s.length ∧ j < s.length ∧ k < s.length)) : min i j = b := by
  have hb := h.hb
  have hlt := fl.lt
  have hne := h.ne
  by_cases hk : (s.length : Int) ≤ k
  · exact h.same fl hk
  · omega
theorem rot_rd {i k : Int} (i0 : 0 ≤ i) (k0 : 0 ≤ k) : rd s ((i + k) % s.length) = rot s i.toNat k.toNat := by
  have := om_rd s (i.toNat + k.toNat)
  rw [show ((i.toNat + k.toNat : Nat) : Int) = i + k by omega] at this
  exact this
end
end Go.Pure

/-! ## E25 -/
namespace Go.Eng
open Go Go.RowKit Go.Pure
section
variable {P : Program} {n : Nd} {B : Nat} {w0 : World} {L : Env} {R : List Row} {ty : TypeId}
/-- A call of a function without a body. -/
theorem a_entry {f : FuncId} {asx : List Operand} {ts : Array TypeId} {vs : List Value} {Post : Value → List Row → Prop} (ha : evs L asx = some vs)
    (hx : ∀ w, Hp B w0 w R → ∃ v w' R', (callFunc f vs.toArray).run P w = .ok (.value v) w' ∧ Hp B w0 w' R' ∧ Post v R') :
    Ac P n B w0 (.call { callee := .value (.func f), args := asx.toArray, argTypes := ts }) ty L R Post := by
  intro a w o K Q ho _ hs hp hk
  have e1 := hs.evs ha
  obtain ⟨v, w', R', hr, hp', hv⟩ := hx w hp
  have hf : a.eval (.func f) = .func (.func f) #[] #[] := hs.ev rfl
  unfold Oper.wp
  simp only [execOp, ho, resolve, hf, Deferred.ofValue, invoke, Sem.run_bind, Sem.run_pure, Result.andThen_ok, List.map_toArray, e1, List.append_toArray, List.nil_append, List.append_nil, hr, Oper.upon]
  exact hk v w' R' hp' hv
theorem cmp_bytes : ∀ {u t : List Int}, ByteL u → ByteL t → Lib.compareBytes (Lib.bytesOf u) (Lib.bytesOf t) = cmpL u t
  | [], [], _, _ => rfl
  | [], _ :: _, _, _ => rfl
  | _ :: _, [], _, _ => rfl
  | x :: u, y :: t, hu, ht => by
    have ih := cmp_bytes (u := u) (t := t) (fun z hz => hu z (List.mem_cons_of_mem _ hz)) fun z hz => ht z (List.mem_cons_of_mem _ hz)
    have hx := hu x (by simp)
    have hy := ht y (by simp)
    have e : ∀ z : Int, 0 ≤ z ∧ z < 256 → ((z.toNat.toUInt8).toNat : Int) = z := fun z hz => by
      rw [Nat.toUInt8, UInt8.toNat_ofNat_of_lt' (by simp [UInt8.size]; omega)]
      omega
    have hlt : ∀ {a b : Int}, 0 ≤ a ∧ a < 256 → 0 ≤ b ∧ b < 256 → (a.toNat.toUInt8 < b.toNat.toUInt8 ↔ a < b) := fun {a b} ha hb => by
      rw [UInt8.lt_iff_toNat_lt]
      have h1 := e a ha
      have h2 := e b hb
      omega
    show (if x.toNat.toUInt8 < y.toNat.toUInt8 then -1 else if y.toNat.toUInt8 < x.toNat.toUInt8 then 1 else Lib.compareBytes (Lib.bytesOf u) (Lib.bytesOf t)) = cmpL (x :: u) (y :: t)
    rw [cmpL, ih]
    by_cases c : x < y
    · rw [if_pos c, if_pos ((hlt hx hy).2 c)]
    · rw [if_neg c, if_neg (fun h => c ((hlt hx hy).1 h))]
      by_cases d : y < x
      · rw [if_pos d, if_pos ((hlt hy hx).2 d)]
      · rw [if_neg d, if_neg (fun h => d ((hlt hy hx).1 h))]
theorem run_bytesOf {w : World} {A : Option Addr} {m c : Nat} {u : List Int} (h : Rd w A m c 1 (ints .u8 u)) : (Extern.Bytes.bytesOf (.slice A m c)).run P w = .ok ⟨(Lib.bytesOf u).toArray⟩ w := by
  have hl := h.lenI
  rcases A with _ | a
  · have h0 : u = [] := by
      cases u with
      | nil => rfl
      | cons y l' => obtain ⟨_, g, _⟩ := h.at_ 0 (.int .u8 y) (by simp [ints]); cases g
    subst h0
    rfl
  · have := Lib.run_loadBytesX (P := P) w u a .empty fun j x hj => by
      obtain ⟨b, e, hc⟩ := h.at_ j (.int .u8 x) (by simp [ints, hj])
      obtain rfl := Option.some.inj e
      exact hc
    rw [← hl] at this
    show (Extern.Bytes.loadBytes a m .empty).run P w = _
    rw [this]
    simp
theorem run_cmp {w : World} {A A2 : Option Addr} {m c m2 c2 : Nat} {u t : List Int} (h : Rd w A m c 1 (ints .u8 u)) (h2 : Rd w A2 m2 c2 1 (ints .u8 t)) (hu : ByteL u) (ht : ByteL t) :
    (Extern.BytealgCompare.compare #[.slice A m c, .slice A2 m2 c2]).run P w = .ok (.int .i64 (cmpL u t)) w := by
  change Sem.run P (do pure (goInt (Extern.BytealgCompare.cmp (← Extern.Bytes.bytesOf (.slice A m c)) (← Extern.Bytes.bytesOf (.slice A2 m2 c2))))) w = _
  simp only [Sem.run_bind, run_bytesOf h, run_bytesOf h2, Result.andThen_ok, Sem.run_pure]
  rw [Lib.cmp_eq, cmp_bytes hu ht]
  rfl
/-- bytealg.Compare. -/
theorem a_cmp {f : FuncId} {fn : Func} {x y : Operand} {ts : Array TypeId} {A A2 : Option Addr} {m c m2 c2 : Nat} {u t : List Int} (hf : P.funcs[f]? = some fn) (hname : (fn.name == "runtime.NumGoroutine") = false) (hb : fn.body.isNone = true) (hn : Extern.findNext fn = none) (he : Extern.find fn = some Extern.BytealgCompare.compare)
    (hx : ev L x = some (.slice A m c)) (hy : ev L y = some (.slice A2 m2 c2)) (h : RdC B w0 R A m c 1 (ints .u8 u)) (h2 : RdC B w0 R A2 m2 c2 1 (ints .u8 t)) (hu : ByteL u) (ht : ByteL t) :
    Ac P n B w0 (.call { callee := .value (.func f), args := [x, y].toArray, argTypes := ts }) ty L R (fun v R' => v = .int .i64 (cmpL u t) ∧ R' = R) :=
  a_entry (vs := [.slice A m c, .slice A2 m2 c2]) (by simp [evs, hx, hy]) fun w hw => ⟨_, w, R, by
    rw [run_callFunc_extern hf hname hb hn he]
    rw [show [Value.slice A m c, Value.slice A2 m2 c2].toArray = #[.slice A m c, .slice A2 m2 c2] from rfl, run_cmp (h w hw) (h2 w hw) hu ht]
    rfl, hw, rfl, rfl⟩
theorem y_cap {x : Operand} {t e : TypeId} {A : Option Addr} {m c : Nat} (ht : P.underlying t = some (.slice e)) (hx : ev L x = some (.slice A m c)) : Yl P n B w0 (.call { callee := .builtin .cap, args := #[x], argTypes := #[t] }) ty L R (.int .i64 (c : Int)) := by
  intro a w o ho _ hs _
  simp [execOp, ho, resolve, invoke, builtin, Builtin.cap_, run_underlying ht, hs.ev hx, goInt]
theorem y_sliceZ {x z : Operand} {t e : TypeId} {A : Option Addr} {m c sz : Nat} {k2 : IntKind} (ht : P.underlying t = some (.slice e)) (hi : (P.info? e).map (·.size) = some sz) (hx : ev L x = some (.slice A m c)) (hz : ev L z = some (.int k2 0)) :
    Yl P n B w0 (.slice t x none (some z) none) ty L R (.slice A 0 c) := by
  intro a w o ho _ hs hp
  obtain ⟨i0, hi0, hsz0⟩ := Option.map_eq_some_iff.1 hi
  have hel : P.elem t = e := by simp [Program.elem, ht]
  have ht' : P.underlying t = some (.slice (P.elem t)) := by rw [hel]; exact ht
  simp only [execOp, ho, Option.map_some, Option.map_none, hs.ev hx, hs.ev hz, Sem.run_bind, run_sliceAt_slice w t _ _ _ _ ht', run_slice_h w t A m c ht' k2 0 (Int.le_refl 0) (by omega), hel]
  have : (if c = 0 then A else Option.map (fun x => x.add 0) A) = A := by
    split
    · rfl
    · exact pat_zero A
  simp [sizeOf, typeInfo, hi0, hsz0, sliced, this]
/-- Rows of this many cells asx one of fewer. -/
theorem Row.lies_cut {w : World} {e sz m c : Nat} {A : Option Addr} {xs : List Value} (h : Row.lies B w ⟨e, sz, A, m, c, xs, false⟩) {k : Nat} (hk : k ≤ m) (hA : A ≠ none) : Row.lies B w ⟨e, sz, A, k, c, xs.take (k * sz), false⟩ := by
  have h1 := Row.lies_w h rfl
  have hle : k * sz ≤ m * sz := Nat.mul_le_mul_right _ hk
  unfold Row.lies
  simp only
  obtain ⟨hl, h2⟩ := h1
  simp only at hl h2
  refine ⟨by rw [List.length_take]; omega, ?_⟩
  rcases h2 with ⟨hv, _⟩ | ⟨g, cap, cur, hv, hb, hg, hnc, hcm, hcs, ht⟩
  · simp only [Value.slice.injEq] at hv
    exact absurd hv.1 hA
  · simp only [Value.slice.injEq] at hv
    obtain ⟨rfl, _, rfl⟩ := hv
    refine .inr ⟨g, c, cur, rfl, hb, hg, by omega, hcm, hcs, ?_⟩
    rw [← ht, List.take_take]
    congr 1
    omega
theorem Hp.cut {w : World} {e sz m c : Nat} {A : Option Addr} {xs : List Value} (h : Hp B w0 w (⟨e, sz, A, m, c, xs, false⟩ :: R)) {k : Nat} (hk : k ≤ m) (hA : A ≠ none) : Hp B w0 w (⟨e, sz, A, k, c, xs.take (k * sz), false⟩ :: R) :=
  ⟨h.below, h.base, fun r hr => by
    rcases List.mem_cons.1 hr with rfl | hr
    · exact Row.lies_cut (h.own _ (.head _)) hk hA
    · exact h.own r (.tail _ hr), by
    obtain ⟨h1, h2⟩ := List.pairwise_cons.1 h.apart
    exact List.pairwise_cons.2 ⟨fun r hr => h1 r hr, h2⟩, h.late⟩
/-- A new row, with room behind what it holds. -/
theorem Hp.newC {w : World} (h : Hp B w0 w R) (cs : Array Value) (e m : Nat) (hm : m ≤ cs.size) (hc : cs.size ≤ maxLen) : Hp B w0 (w.alloc (.cells cs e)) (⟨e, 1, some ⟨w.heap.size, 0, none⟩, m, cs.size, cs.toList.take m, false⟩ :: R) := by
  have h1 := h.new cs e cs.size 1 hc (by omega)
  have := h1.cut (k := m) hm (by simp)
  rwa [Nat.mul_one] at this
/-- append of so many noughts to nothing. -/
theorem a_zeros {x y : Operand} {t tn e : TypeId} {z : Value} {bytes : Nat} {kn : IntKind} {m : Nat} (ht : P.underlying t = some (.slice e)) (htn : P.underlying tn = some (.int kn)) (hinfo : (P.info? e).map (fun i => (i.zero, i.size, i.bytes)) = some (some z, 1, bytes)) (hz : z.cells = #[z])
    (hx : ev L x = some (.slice none 0 0)) (hy : ev L y = some (.int .i64 (m : Int))) (h0 : 0 < m) (hm : m ≤ 9223372036854775807) (hb : m * bytes ≤ 281474976710656) :
    Ac P n B w0 (.call { callee := .builtin .append, args := #[x, y], argTypes := #[t, tn] }) ty L R (fun v R' => ∃ g c, v = .slice (some ⟨g, 0, none⟩) m c ∧ R' = ⟨e, 1, some ⟨g, 0, none⟩, m, c, List.replicate m z, false⟩ :: R) := by
  intro a w o K Q ho _ hs hp hk
  obtain ⟨i0, hi, hzz⟩ := Option.map_eq_some_iff.1 hinfo
  simp only [Prod.mk.injEq] at hzz
  obtain ⟨hz0, hz1, hz2⟩ := hzz
  have hr := Lib.run_append_nil_zeros (P := P) w t tn o.type e i0 z .i64 kn ht htn hi hz0 m h0 (by omega) (by omega) (by rw [hz2]; exact hb)
  have hzc : ∀ q, (Builtin.zeroCells z.cells q).toList = List.replicate q z := fun q => by
    rw [hz]
    refine List.ext_getElem (by simp [Builtin.zeroCells]) fun i h1 h2 => ?_
    simp [Builtin.zeroCells, Nat.mod_one]
  unfold Oper.wp
  simp only [execOp, ho, resolve, invoke, builtin, Sem.run_bind, Sem.run_pure, Result.andThen_ok, List.map_toArray, List.map_cons, List.map_nil, hs.ev hx, hs.ev hy, hr, Oper.upon]
  have hge := grownCap_ge w m 0 e
  have hle := grownCap_le_maxLen w m 0 e (by unfold maxLen; omega)
  have hsz : (Builtin.zeroCells z.cells m ++ Builtin.zeroCells z.cells (grownCap w m 0 e - m)).size = grownCap w m 0 e := by
    rw [← Array.length_toList, Array.toList_append, List.length_append, hzc, hzc, List.length_replicate, List.length_replicate]; omega
  have hp2 := (hp.drawn (w.drawn + 1) (by omega)).newC (Builtin.zeroCells z.cells m ++ Builtin.zeroCells z.cells (grownCap w m 0 e - m)) e m (by rw [hsz]; exact hge) (by rw [hsz]; exact hle)
  rw [Array.toList_append, hzc, hzc, List.take_left' (by rw [List.length_replicate]), hsz] at hp2
  exact hk _ _ _ hp2 ⟨_, _, rfl, rfl⟩
end
end Go.Eng

/-! ## E15 -/
namespace Go.Eng
open Go Go.RowKit Go.Proofs
theorem SlW.elim {C : Prop} {k : IntKind} {w : World} {vals : List Value} {ls : List (List Int)} (h : SlW k w vals ls) {i : Int} (h0 : 0 ≤ i) (h1 : i < ls.length) (q : ∀ (A : Option Addr) (c : Nat), vals[i.toNat]? = some (Value.slice A (rdl ls i).length c) → Rd w A (rdl ls i).length c 1 (ints k (rdl ls i)) → (∀ x ∈ rdl ls i, (Lit.int k x).wf = true) → (rdl ls i).length ≤ 140737488355327 → C) : C := by
  obtain ⟨A, c, a, b, d, e⟩ := h.at h0 h1
  exact q A c a b d e
section
variable {P : Program} {n : Nd} {B : Nat} {w0 : World} {L : Env} {R : List Row} {ty : TypeId}
theorem y_pairAt {x ix : Operand} {t e : TypeId} {k : IntKind} {A : Option Addr} {m c q : Nat} {i j : Int} {l : List (Int × Int)} (ht : P.underlying t = some (.array 2 e)) (hi : (P.info? e).map (·.size) = some 1) (hx : ev L x = some (.pointer (pat A (i.toNat * 2)))) (hix : ev L ix = some (.int k j))
    (hr : RdC B w0 R A m c 2 (prs l)) (h0 : 0 ≤ i) (h1 : i < l.length) (hj : j.toNat = q) (hj0 : 0 ≤ j) (hj1 : j < 2) : Yl P n B w0 (.indexAddr t x ix) ty L R (.pointer (pat A (i.toNat * 2 + q))) := by
  have := y_indexArr (P := P) (n := n) (B := B) (w0 := w0) (ty := ty) ht hi hx rfl hix hr (by rw [prs_length]; omega) hj0 hj1
  rwa [Nat.mul_one, hj] at this
theorem prs_fst {l : List (Int × Int)} {i : Int} (h0 : 0 ≤ i) (h : i < l.length) : (prs l)[i.toNat * 2 + 0]? = some (.int .i64 (rdp l i).1) := by
  rw [prs_get _ _ (by omega)]
  rw [if_pos (by omega), show (i.toNat * 2 + 0) / 2 = i.toNat by omega]
  rfl
theorem prs_snd {l : List (Int × Int)} {i : Int} (h0 : 0 ≤ i) (h : i < l.length) : (prs l)[i.toNat * 2 + 1]? = some (.int .i64 (rdp l i).2) := by
  rw [prs_get _ _ (by omega)]
  rw [if_neg (by omega), show (i.toNat * 2 + 1) / 2 = i.toNat by omega]
  rfl
theorem y_ldP1 {x : Operand} {t : TypeId} {d : TypeDesc} {A : Option Addr} {m c : Nat} {l : List (Int × Int)} {i : Int} (hu : P.underlying t = some d) (hd : aggB d = false) (hx : ev L x = some (.pointer (pat A (i.toNat * 2 + 0)))) (hr : RdC B w0 R A m c 2 (prs l)) (h0 : 0 ≤ i) (h1 : i < l.length) :
    Yl P n B w0 (.load t x) ty L R (.int .i64 (rdp l i).1) := y_ld hu hd hx rfl hr (prs_fst h0 h1)
theorem y_ldP2 {x : Operand} {t : TypeId} {d : TypeDesc} {A : Option Addr} {m c : Nat} {l : List (Int × Int)} {i : Int} (hu : P.underlying t = some d) (hd : aggB d = false) (hx : ev L x = some (.pointer (pat A (i.toNat * 2 + 1)))) (hr : RdC B w0 R A m c 2 (prs l)) (h0 : 0 ≤ i) (h1 : i < l.length) :
    Yl P n B w0 (.load t x) ty L R (.int .i64 (rdp l i).2) := y_ld hu hd hx rfl hr (prs_snd h0 h1)
end
section
variable {P : Program} {n : Nd} {B : Nat} {w0 : World} {ops : Array Oper} {K : Env → List Row → Prop} {L : Env} {R : List Row} {op : Op} {ty : TypeId} {pos : String} {aft : Array Edge}
/-- One of those that may come up now, at its turn. -/
def Turn1 (P : Program) (n : Nd) (B : Nat) (w0 : World) (ops : Array Oper) (K : Env → List Row → Prop) (fuel : Nat) (listed : Array Bool) (L : Env) (R : List Row) (i : Nat) : Prop :=
  ∀ a w (Q : Exit → Act → World → Prop), Sat n L a → Hp B w0 w R → (∀ c a w, ¬ Q (.panic c) a w) → (∀ a' w' L' R', Sat n L' a' → Hp B w0 w' R' → K L' R' → Q .normal a' w') →
    wpOp P ops Q i (fun a' w' => ∃ S' : World → Prop, S' w' ∧ (barB ops listed i = true ∨ ∀ x, S' x → Hp B w0 x R) ∧ wpAnyB P ops Q fuel S' (listed.setIfInBounds i true) a' w') a w
theorem wd_two {fuel : Nat} {listed : Array Bool} (i j : Nat) (hr : Region.ready .any ops listed = [i, j]) (hi : Turn1 P n B w0 ops K fuel listed L R i) (hj : Turn1 P n B w0 ops K fuel listed L R j) : WD P n B w0 ops K (fuel + 1) listed L R := by
  intro a w Q hs hp hpan hq
  refine ⟨fun h0 => absurd (hr ▸ h0) (by simp), fun k hk => ?_⟩
  rw [hr] at hk
  rcases List.mem_cons.1 hk with rfl | hk
  · exact hi a w Q hs hp hpan hq
  · obtain rfl := List.mem_singleton.1 hk
    exact hj a w Q hs hp hpan hq
theorem t1_act {i : Nat} {o : Oper} {Post : Value → List Row → Prop} {fuel : Nat} {listed : Array Bool} (hi : ops[i]? = some o) (hg : ∀ a, Sat n L a → Region.wanted o (yielded ops a.tmps) = true) (ha : Ac P n B w0 o.op o.type L R Post)
    (hn : ∀ v a, Sat n L a → Sat n (match o.dst with | some d => (d, v) :: L | none => L) (a.put o.dst v))
    (h : ∀ v R', Post v R' → (barB ops listed i = true ∨ ∀ w, Hp B w0 w R' → Hp B w0 w R) ∧ WD P n B w0 ops K fuel (listed.setIfInBounds i true) (match o.dst with | some d => (d, v) :: L | none => L) R') : Turn1 P n B w0 ops K fuel listed L R i := by
  intro a w Q hs hp hpan hq
  unfold wpOp
  simp only [hi, hg a hs, if_true]
  refine .inl (ha a w o _ Q rfl rfl hs hp fun v w' R' hp' hv => ?_)
  obtain ⟨h1, h2⟩ := h v R' hv
  exact ⟨fun w => Hp B w0 w R', hp', h1, h2 _ w' Q (hn v a hs) hp' hpan hq⟩
theorem t1_a {d : Nat} {Post : Value → List Row → Prop} {fuel : Nat} {listed : Array Bool} (i : Nat) (hi : ops[i]? = some { dst := some d, op := op, type := ty, pos := pos, after := aft, guard := none }) (hn : Nat.blt d n = true) (ha : Ac P n B w0 op ty L R Post)
    (h : ∀ v R', Post v R' → (barB ops listed i = true ∨ ∀ w, Hp B w0 w R' → Hp B w0 w R) ∧ WD P n B w0 ops K fuel (listed.setIfInBounds i true) ((d, v) :: L) R') : Turn1 P n B w0 ops K fuel listed L R i :=
  t1_act hi (fun _ _ => rfl) ha (fun v _ hs => hs.put hn v) h
end
end Go.Eng

/-! ## N1 -/
namespace Go.Proofs.YtdfcnalkdlifiaaGreat
open Go Go.Eng Go.Pure
set_option linter.unusedVariables false
theorem LA.init0 {u : List Int} : LA u (lrotK u u.length) 0 1 0 := LA.init _
set_option maxRecDepth 100000 in
set_option maxHeartbeats 800000 in
theorem at6_ct {w : World} {A_u : Option Addr} {n_u c_u : Nat} {u : List Int} (h_u : Rd w A_u n_u c_u 1 (ints .u8 u)) (hN : u.length ≤ 1000000) :
    Ct Tryz.prog 91 #[.slice A_u n_u c_u] w.heap.size w [] (fun v R' => v = .int .i64 (lrot u)) := by
  obtain rfl := h_u.lenI
  refine fn1 Tryz.func91 rfl rfl rfl ?_
  have m_u := h_u.max
  refine w_seq ?_
  refine w_reg ?_
  refine wr_y rfl (y_assign rfl) ?_
  refine wr_nil ?_
  refine w_seq ?_
  refine w_reg ?_
  refine wr_y rfl (y_move rfl) ?_
  refine wr_y rfl (y_len Tryz.underlying23 rfl) ?_
  refine wr_y rfl (y_assign rfl) ?_
  refine wr_nil ?_
  refine w_seq ?_
  refine w_reg ?_
  refine wr_y rfl (y_assign rfl) ?_
  refine wr_y rfl (y_assign rfl) ?_
  refine wr_y rfl (y_assign rfl) ?_
  refine wr_nil ?_
  refine w_seq ?_
  refine w_block ?_
  refine w_loop3 (fun (i : Int) (j : Int) (k : Int) => [(0, .slice A_u u.length c_u), (3, .int .i64 ((u.length : Nat) : Int)), (4, .int .i64 i), (5, .int .i64 j), (6, .int .i64 k)]) (fun (i : Int) (j : Int) (k : Int) => []) (fun (i : Int) (j : Int) (k : Int) => (LA u (lrotK u u.length) i j k) ∧ (i ≤ 2 * u.length + 2) ∧ (j ≤ 2 * u.length + 3) ∧ (k ≤ u.length) ∧ (u.length = 0 → i = 0 ∧ j = 1)) (fun (i : Int) (j : Int) (k : Int) => (3 * u.length + 3 - (i + j + k)).toNat) ?_ ?_
  ·
    exact ⟨0, 1, 0, ⟨(LA.init0), (by omega), (by omega), (by omega), (by omega)⟩, (Sub.cons rfl (Sub.cons rfl (Sub.cons rfl (Sub.cons rfl (Sub.cons rfl Sub.nil))))), fun _ h => h⟩
  intro i j k ⟨hLA, hib, hjb, hkb, hz⟩
  have hi0 := hLA.i0
  have hj0 := hLA.j0
  have hk0 := hLA.k0
  refine w_seq ?_
  refine w_seq ?_
  refine w_reg ?_
  refine wr_y rfl (y_move rfl) ?_
  refine wr_y rfl (y_move rfl) ?_
  refine wr_y rfl (y_lt rfl rfl) ?_
  refine wr_y rfl (y_move rfl) ?_
  refine wr_mid 4 [(0, .slice A_u u.length c_u), (3, .int .i64 ((u.length : Nat) : Int)), (4, .int .i64 i), (5, .int .i64 j), (6, .int .i64 k), (18, .bool (decide ((i < ((u.length : Nat) : Int)) ∧ (j < ((u.length : Nat) : Int)))))] [] ?_ ?_
  ·
    refine wr_case 14 rfl (fun hc1 => ?_) (fun hc1 => ?_)
    ·
      refine wr_yes rfl rfl ?_
      refine wr_y rfl (y_move rfl) ?_
      refine wr_yes rfl rfl ?_
      refine wr_y rfl (y_move rfl) ?_
      refine wr_yes rfl rfl ?_
      refine wr_y rfl (y_lt rfl rfl) ?_
      refine wr_y rfl (y_pickT rfl rfl) ?_
      refine wr_nil ?_
      exact ⟨(Sub.cons rfl (Sub.cons rfl (Sub.cons rfl (Sub.cons rfl (Sub.cons rfl (Sub.to rfl (mb (by first | omega | exact ⟨fun h => ⟨(by assumption), h⟩, fun h => h.2⟩ | exact .inl (by assumption) | exact ⟨.inr, fun h => h.resolve_left (by assumption)⟩ | exact ⟨fun h => h.resolve_left (by assumption), .inr⟩ | simp [*])) Sub.nil)))))), fun _ h => h⟩
    ·
      refine wr_no rfl rfl rfl rfl ?_
      refine wr_no rfl rfl rfl rfl ?_
      refine wr_no rfl rfl rfl rfl ?_
      refine wr_y rfl (y_pickF rfl rfl) ?_
      refine wr_nil ?_
      exact ⟨(Sub.cons rfl (Sub.cons rfl (Sub.cons rfl (Sub.cons rfl (Sub.cons rfl (Sub.to rfl (mb_f (by first | omega | exact ⟨fun h => ⟨(by assumption), h⟩, fun h => h.2⟩ | exact .inl (by assumption) | exact ⟨.inr, fun h => h.resolve_left (by assumption)⟩ | exact ⟨fun h => h.resolve_left (by assumption), .inr⟩ | simp [*])) Sub.nil)))))), fun _ h => h⟩
  refine wr_y rfl (y_move rfl) ?_
  refine wr_mid 4 [(0, .slice A_u u.length c_u), (3, .int .i64 ((u.length : Nat) : Int)), (4, .int .i64 i), (5, .int .i64 j), (6, .int .i64 k), (23, .bool (decide (((i < ((u.length : Nat) : Int)) ∧ (j < ((u.length : Nat) : Int))) ∧ (k < ((u.length : Nat) : Int)))))] [] ?_ ?_
  ·
    refine wr_case 19 rfl (fun hc2 => ?_) (fun hc2 => ?_)
    ·
      refine wr_yes rfl rfl ?_
      refine wr_y rfl (y_move rfl) ?_
      refine wr_yes rfl rfl ?_
      refine wr_y rfl (y_move rfl) ?_
      refine wr_yes rfl rfl ?_
      refine wr_y rfl (y_lt rfl rfl) ?_
      refine wr_y rfl (y_pickT rfl rfl) ?_
      refine wr_nil ?_
      exact ⟨(Sub.cons rfl (Sub.cons rfl (Sub.cons rfl (Sub.cons rfl (Sub.cons rfl (Sub.to rfl (mb (by first | omega | exact ⟨fun h => ⟨(by assumption), h⟩, fun h => h.2⟩ | exact .inl (by assumption) | exact ⟨.inr, fun h => h.resolve_left (by assumption)⟩ | exact ⟨fun h => h.resolve_left (by assumption), .inr⟩ | simp [*])) Sub.nil)))))), fun _ h => h⟩
    ·
      refine wr_no rfl rfl rfl rfl ?_
      refine wr_no rfl rfl rfl rfl ?_
      refine wr_no rfl rfl rfl rfl ?_
      refine wr_y rfl (y_pickF rfl rfl) ?_
      refine wr_nil ?_
      exact ⟨(Sub.cons rfl (Sub.cons rfl (Sub.cons rfl (Sub.cons rfl (Sub.cons rfl (Sub.to rfl (mb_f (by first | omega | exact ⟨fun h => ⟨(by assumption), h⟩, fun h => h.2⟩ | exact .inl (by assumption) | exact ⟨.inr, fun h => h.resolve_left (by assumption)⟩ | exact ⟨fun h => h.resolve_left (by assumption), .inr⟩ | simp [*])) Sub.nil)))))), fun _ h => h⟩
  refine wr_nil ?_
  refine w_if rfl (fun hc3 => ?_) (fun hc3 => ?_)
  ·
    have hm1 := Int.emod_nonneg (i + k) (show (u.length : Int) ≠ 0 by omega)
    have hm2 := Int.emod_lt_of_pos (i + k) (show (0 : Int) < u.length by omega)
    have hm3 := Int.emod_nonneg (j + k) (show (u.length : Int) ≠ 0 by omega)
    have hm4 := Int.emod_lt_of_pos (j + k) (show (0 : Int) < u.length by omega)
    have fl := lrot_FL (s := u) (by omega)
    have ei := rot_rd (s := u) hLA.i0 hLA.k0
    have ej := rot_rd (s := u) hLA.j0 hLA.k0
    refine w_skip ?_
    refine w_block ?_
    refine w_seq ?_
    refine w_regd mixed ?_
    refine wd_y 0 rfl (by kernel_rfl) rfl (y_move rfl) ?_
    refine wd_y 1 rfl (by kernel_rfl) rfl (y_move rfl) ?_
    refine wd_y 2 rfl (by kernel_rfl) rfl (y_move rfl) ?_
    refine wd_y 3 rfl (by kernel_rfl) rfl (y_addI rfl rfl (by omega)) ?_
    refine wd_y 4 rfl (by kernel_rfl) rfl (y_move rfl) ?_
    refine wd_y 5 rfl (by kernel_rfl) rfl (y_rem rfl rfl (by omega) (by omega)) ?_
    refine wd_y 6 rfl (by kernel_rfl) rfl (y_index1 Tryz.underlying23 sz5 rfl rfl (h_u.c _) (by omega) (by omega)) ?_
    refine wd_y 7 rfl (by kernel_rfl) rfl (y_ldI Tryz.underlying5 rfl rfl (h_u.c _) (by omega) (by omega)) ?_
    refine wd_y 8 rfl (by kernel_rfl) rfl (y_move rfl) ?_
    refine wd_y 9 rfl (by kernel_rfl) rfl (y_move rfl) ?_
    refine wd_y 10 rfl (by kernel_rfl) rfl (y_move rfl) ?_
    refine wd_y 11 rfl (by kernel_rfl) rfl (y_addI rfl rfl (by omega)) ?_
    refine wd_y 12 rfl (by kernel_rfl) rfl (y_move rfl) ?_
    refine wd_y 13 rfl (by kernel_rfl) rfl (y_rem rfl rfl (by omega) (by omega)) ?_
    refine wd_y 14 rfl (by kernel_rfl) rfl (y_index1 Tryz.underlying23 sz5 rfl rfl (h_u.c _) (by omega) (by omega)) ?_
    refine wd_y 15 rfl (by kernel_rfl) rfl (y_ldI Tryz.underlying5 rfl rfl (h_u.c _) (by omega) (by omega)) ?_
    refine wd_y 16 rfl (by kernel_rfl) rfl (y_assign rfl) ?_
    refine wd_y 17 rfl (by kernel_rfl) rfl (y_assign rfl) ?_
    refine wd_nil (by kernel_rfl) ?_
    refine w_seq ?_
    refine w_block ?_
    refine w_seq ?_
    refine w_reg ?_
    refine wr_y rfl (y_move rfl) ?_
    refine wr_y rfl (y_move rfl) ?_
    refine wr_y rfl (y_eq rfl rfl) ?_
    refine wr_y rfl (y_assign rfl) ?_
    refine wr_nil ?_
    refine w_if rfl (fun hc4 => ?_) (fun hc4 => ?_)
    ·
      have hst := hLA.eq (by rw [← ei, ← ej]; exact hc4)
      refine w_seq ?_
      refine w_reg ?_
      refine wr_y rfl (y_move rfl) ?_
      refine wr_y rfl (y_addI rfl rfl (by omega)) ?_
      refine wr_y rfl (y_assign rfl) ?_
      refine wr_nil ?_
      refine w_exit ?_
      exact ⟨i, j, k + 1, ⟨(hst), (by omega), (by omega), (by omega), (by omega)⟩, (by omega), (Sub.cons rfl (Sub.cons rfl (Sub.cons rfl (Sub.cons rfl (Sub.cons rfl Sub.nil))))), fun _ h => h⟩
    ·
      refine w_seq ?_
      refine w_reg ?_
      refine wr_y rfl (y_move rfl) ?_
      refine wr_y rfl (y_move rfl) ?_
      refine wr_y rfl (y_gt rfl rfl) ?_
      refine wr_y rfl (y_assign rfl) ?_
      refine wr_nil ?_
      refine w_if rfl (fun hc5 => ?_) (fun hc5 => ?_)
      ·
        have hst := hLA.gt fl (by rw [← ei, ← ej]; exact hc5)
        refine w_reg ?_
        refine wr_y rfl (y_move rfl) ?_
        refine wr_y rfl (y_move rfl) ?_
        refine wr_y rfl (y_addI rfl rfl (by omega)) ?_
        refine wr_y rfl (y_addI rfl rfl (by omega)) ?_
        refine wr_y rfl (y_assign rfl) ?_
        refine wr_nil ?_
        refine w_seq ?_
        refine w_reg ?_
        refine wr_y rfl (y_assign rfl) ?_
        refine wr_nil ?_
        refine w_seq ?_
        refine w_reg ?_
        refine wr_y rfl (y_move rfl) ?_
        refine wr_y rfl (y_move rfl) ?_
        refine wr_y rfl (y_eq rfl rfl) ?_
        refine wr_nil ?_
        refine w_if rfl (fun hc6 => ?_) (fun hc6 => ?_)
        ·
          refine w_reg ?_
          refine wr_y rfl (y_move rfl) ?_
          refine wr_y rfl (y_addI rfl rfl (by omega)) ?_
          refine wr_y rfl (y_assign rfl) ?_
          refine wr_nil ?_
          exact ⟨i + (k + 1), j + 1, 0, ⟨(hst.2 (by omega)), (by omega), (by omega), (by omega), (by omega)⟩, (by omega), (Sub.cons rfl (Sub.cons rfl (Sub.cons rfl (Sub.cons rfl (Sub.cons rfl Sub.nil))))), fun _ h => h⟩
        ·
          refine w_skip ?_
          exact ⟨i + (k + 1), j, 0, ⟨(hst.1 (by omega)), (by omega), (by omega), (by omega), (by omega)⟩, (by omega), (Sub.cons rfl (Sub.cons rfl (Sub.cons rfl (Sub.cons rfl (Sub.cons rfl Sub.nil))))), fun _ h => h⟩
      ·
        have hst := hLA.lt fl (by rw [← ei, ← ej]; omega)
        refine w_reg ?_
        refine wr_y rfl (y_move rfl) ?_
        refine wr_y rfl (y_move rfl) ?_
        refine wr_y rfl (y_addI rfl rfl (by omega)) ?_
        refine wr_y rfl (y_addI rfl rfl (by omega)) ?_
        refine wr_y rfl (y_assign rfl) ?_
        refine wr_nil ?_
        refine w_seq ?_
        refine w_reg ?_
        refine wr_y rfl (y_assign rfl) ?_
        refine wr_nil ?_
        refine w_seq ?_
        refine w_reg ?_
        refine wr_y rfl (y_move rfl) ?_
        refine wr_y rfl (y_move rfl) ?_
        refine wr_y rfl (y_eq rfl rfl) ?_
        refine wr_nil ?_
        refine w_if rfl (fun hc7 => ?_) (fun hc7 => ?_)
        ·
          refine w_reg ?_
          refine wr_y rfl (y_move rfl) ?_
          refine wr_y rfl (y_addI rfl rfl (by omega)) ?_
          refine wr_y rfl (y_assign rfl) ?_
          refine wr_nil ?_
          exact ⟨i, (j + (k + 1)) + 1, 0, ⟨(hst.2 (by omega)), (by omega), (by omega), (by omega), (by omega)⟩, (by omega), (Sub.cons rfl (Sub.cons rfl (Sub.cons rfl (Sub.cons rfl (Sub.cons rfl Sub.nil))))), fun _ h => h⟩
        ·
          refine w_skip ?_
          exact ⟨i, j + (k + 1), 0, ⟨(hst.1 (by omega)), (by omega), (by omega), (by omega), (by omega)⟩, (by omega), (Sub.cons rfl (Sub.cons rfl (Sub.cons rfl (Sub.cons rfl (Sub.cons rfl Sub.nil))))), fun _ h => h⟩
  ·
    refine w_exit ?_
    refine w_seq ?_
    refine w_reg ?_
    refine wr_y rfl (y_move rfl) ?_
    refine wr_y rfl (y_move rfl) ?_
    refine wr_y rfl (y_min rfl rfl) ?_
    refine wr_y rfl (y_assign rfl) ?_
    refine wr_nil ?_
    refine w_ret ?_
    refine ⟨_, rfl, ?_⟩
    rcases Nat.eq_zero_or_pos u.length with z | z
    · obtain ⟨rfl, rfl⟩ := hz z
      have e : lrot u = 0 := by unfold lrot; rw [z]; rfl
      rw [e]; rfl
    · exact congrArg (Value.int .i64) (hLA.done (lrot_FL z) (by omega))

set_option maxRecDepth 100000 in
theorem growB_ct {w : World} {m : Int} (h0 : 0 ≤ m) (hN : m ≤ 1000000) :
    Ct Tryz.prog 123 #[.slice none 0 0, .int .i64 m] w.heap.size w [] (fun v R' => ∃ A c, v = .slice A 0 c ∧ R' = [⟨5, 1, A, 0, c, ints .u8 [], false⟩]) := by
  refine fn1 Tryz.func123 rfl rfl rfl ?_
  refine w_seq ?_
  refine w_reg ?_
  refine wr_sub (R1 := [⟨5, 1, none, 0, 0, ints .u8 ([]), false⟩]) (Sub.refl _) (fun _ h => h.nil 5 1) ?_
  refine wr_y rfl (y_assign rfl) ?_
  refine wr_nil ?_
  refine w_seq ?_
  refine w_seq ?_
  refine w_reg ?_
  refine wr_y rfl (y_move rfl) ?_
  refine wr_y rfl (Yl.f (y_lt rfl rfl) (by omega)) ?_
  refine wr_nil ?_
  refine w_false rfl ?_
  refine w_skip ?_
  refine w_seq ?_
  refine w_seq ?_
  refine w_reg ?_
  refine wr_y rfl (y_move rfl) ?_
  refine wr_y rfl (y_move rfl) ?_
  refine wr_y rfl (y_cap Tryz.underlying23 rfl) ?_
  refine wr_y rfl (y_move rfl) ?_
  refine wr_y rfl (y_len Tryz.underlying23 rfl) ?_
  refine wr_y rfl (y_subI rfl rfl (by omega)) ?_
  refine wr_y rfl (y_subI rfl rfl (by omega)) ?_
  refine wr_y rfl (y_assign rfl) ?_
  refine wr_nil ?_
  refine w_seq ?_
  refine w_reg ?_
  refine wr_y rfl (y_move rfl) ?_
  refine wr_y rfl (y_gt rfl rfl) ?_
  refine wr_nil ?_
  refine w_if rfl (fun hc1 => ?_) (fun hc1 => ?_)
  ·
    refine w_reg ?_
    refine wr_y rfl (y_move rfl) ?_
    refine wr_y rfl (y_move rfl) ?_
    refine wr_y rfl (y_cap Tryz.underlying23 rfl) ?_
    refine wr_y rfl (y_sliceZ Tryz.underlying23 sz5 rfl rfl) ?_
    refine wr_y rfl (Yl.is (y_move rfl) (by rw [show m - (((0 : Nat) : Int) - ((0 : Nat) : Int)) = ((m.toNat : Nat) : Int) by omega])) ?_
    refine wr_a rfl (a_zeros Tryz.underlying23 Tryz.underlying3 zb5 rfl rfl rfl (by omega) (by omega) (by omega)) ?_
    rintro _ _ ⟨g_1, c_2, rfl, rfl⟩
    refine wr_sub (R1 := [⟨5, 1, (some ⟨g_1, 0, none⟩), 0, c_2, ints .u8 ([]), false⟩, ⟨5, 1, none, 0, 0, ints .u8 ([]), false⟩]) (Sub.refl _) (fun _ h => h.cut (k := 0) (Nat.zero_le _) (by simp)) ?_
    refine wr_y rfl (y_move rfl) ?_
    refine wr_y rfl (y_len Tryz.underlying23 rfl) ?_
    refine wr_y rfl (y_sliceZ Tryz.underlying23 sz5 rfl rfl) ?_
    refine wr_y rfl (y_assign rfl) ?_
    refine wr_nil ?_
    refine w_seq ?_
    refine w_reg ?_
    refine wr_y rfl (y_move rfl) ?_
    refine wr_y rfl (y_assign rfl) ?_
    refine wr_nil ?_
    refine w_retR (R1 := [⟨5, 1, (some ⟨g_1, 0, none⟩), 0, c_2, ints .u8 ([]), false⟩]) (fun _ h => h.sel [0] (by decide) rfl) ?_
    refine ⟨_, rfl, ?_⟩
    exact ⟨_, _, rfl, rfl⟩
  ·
    refine w_skip ?_
    refine w_seq ?_
    refine w_reg ?_
    refine wr_y rfl (y_move rfl) ?_
    refine wr_y rfl (y_assign rfl) ?_
    refine wr_nil ?_
    refine w_retR (R1 := [⟨5, 1, none, 0, 0, ints .u8 ([]), false⟩]) (fun _ h => h.sel [0] (by decide) rfl) ?_
    refine ⟨_, rfl, ?_⟩
    exact ⟨_, _, rfl, rfl⟩

theorem flat_le {ws : List (List Int)} (i : Nat) : ((ws.take i).flatten).length ≤ ws.flatten.length := by
  conv => rhs; rw [← List.take_append_drop i ws]
  rw [List.flatten_append, List.length_append]
  omega
set_option maxRecDepth 100000 in
set_option maxHeartbeats 800000 in
theorem concatB_ct {w : World} {A_ws : Option Addr} {n_ws c_ws : Nat} {vals_ws : List Value} {ws : List (List Int)} (h_ws : Rd w A_ws n_ws c_ws 1 vals_ws) (s_ws : SlW .u8 w vals_ws ws) (hN : ws.flatten.length ≤ 1000000 ∧ ws.length ≤ 1000000) :
    Ct Tryz.prog 92 #[.slice A_ws n_ws c_ws] w.heap.size w [] (fun v R' => ∃ A c, v = .slice A (ws.flatten).length c ∧ R' = [⟨5, 1, A, (ws.flatten).length, c, ints .u8 (ws.flatten), false⟩]) := by
  obtain rfl : n_ws = ws.length := by have := h_ws.len; have := s_ws.1; omega
  refine fn1 Tryz.func92 rfl rfl rfl ?_
  have m_ws := h_ws.max
  refine w_seq ?_
  refine w_reg ?_
  refine wr_y rfl (y_assign rfl) ?_
  refine wr_nil ?_
  refine w_seq ?_
  refine w_reg ?_
  refine wr_y rfl (y_assign rfl) ?_
  refine wr_nil ?_
  refine w_seq ?_
  refine w_seq ?_
  refine w_reg ?_
  refine wr_y rfl (y_move rfl) ?_
  refine wr_y rfl (y_len Tryz.underlying22 rfl) ?_
  refine wr_y rfl (y_move rfl) ?_
  refine wr_nil ?_
  refine w_block ?_
  refine w_loop2 (fun (i : Int) (z : Int) => [(0, .slice A_ws ws.length c_ws), (3, .int .i64 z), (9, .slice A_ws ws.length c_ws), (10, .int .i64 ((ws.length : Nat) : Int)), (11, .int .i64 i)]) (fun (i : Int) (z : Int) => []) (fun (i : Int) (z : Int) => (0 ≤ i) ∧ (i ≤ ws.length) ∧ (z = ((ws.take i.toNat).flatten.length : Int))) (fun (i : Int) (z : Int) => (ws.length - i).toNat) ?_ ?_
  ·
    exact ⟨0, 0, ⟨(by omega), (by omega), (rfl)⟩, (Sub.cons rfl (Sub.cons rfl (Sub.cons rfl (Sub.cons rfl (Sub.cons rfl Sub.nil))))), fun _ h => h⟩
  intro i z ⟨hi0, hi1, hz⟩
  have hfl := flat_le (ws := ws) i.toNat
  refine w_seq ?_
  refine w_reg ?_
  refine wr_y rfl (y_lt rfl rfl) ?_
  refine wr_nil ?_
  refine w_seq ?_
  refine w_if rfl (fun hc1 => ?_) (fun hc1 => ?_)
  ·
    have hfl2 := flat_le (ws := ws) (i + 1).toNat
    rw [flat_take_succ hi0 (by omega), List.length_append] at hfl2
    refine w_skip ?_
    refine w_seq ?_
    refine w_block ?_
    refine w_seq ?_
    refine w_reg ?_
    refine wr_y rfl (y_index1 Tryz.underlying22 sz23 rfl rfl (h_ws.c _) (by omega) (by omega)) ?_
    refine s_ws.elim (i := i) (by omega) (by omega) (fun A_1 c_2 hv_3 hr_4 hb_5 mhr_4 => ?_)
    refine wr_y rfl (y_ld Tryz.underlying23 rfl rfl rfl (h_ws.c _) hv_3) ?_
    refine wr_y rfl (y_assign rfl) ?_
    refine wr_nil ?_
    refine w_seq ?_
    refine w_reg ?_
    refine wr_y rfl (y_move rfl) ?_
    refine wr_y rfl (y_move rfl) ?_
    refine wr_y rfl (y_len Tryz.underlying23 rfl) ?_
    refine wr_y rfl (y_addI rfl rfl (by omega)) ?_
    refine wr_y rfl (y_assign rfl) ?_
    refine wr_nil ?_
    refine w_seq ?_
    refine w_reg ?_
    refine wr_y rfl (y_move rfl) ?_
    refine wr_y rfl (Yl.f (y_lt rfl rfl) (by omega)) ?_
    refine wr_nil ?_
    refine w_false rfl ?_
    refine w_skip ?_
    refine w_reg ?_
    refine wr_y rfl (y_addI rfl rfl (by omega)) ?_
    refine wr_y rfl (y_move rfl) ?_
    refine wr_nil ?_
    exact ⟨i + 1, z + (((rdl ws i).length : Nat) : Int), ⟨(by omega), (by omega), (by rw [flat_take_succ hi0 (by omega), List.length_append, hz]; omega)⟩, (by omega), (Sub.cons rfl (Sub.cons rfl (Sub.cons rfl (Sub.cons rfl (Sub.cons rfl Sub.nil))))), fun _ h => h⟩
  ·
    refine w_exit ?_
    refine w_seq ?_
    refine w_reg ?_
    refine wr_y rfl (y_move rfl) ?_
    refine wr_a rfl (a_callF en123 rfl (Ct.fresh (fun w hw => growB_ct (by omega) (by omega)))) ?_
    rintro _ _ ⟨_, rfl, A_6, c_7, rfl, rfl⟩
    refine wr_y rfl (y_assign rfl) ?_
    refine wr_nil ?_
    refine w_seq ?_
    refine w_seq ?_
    refine w_reg ?_
    refine wr_y rfl (y_move rfl) ?_
    refine wr_y rfl (y_len Tryz.underlying22 rfl) ?_
    refine wr_y rfl (y_move rfl) ?_
    refine wr_nil ?_
    refine w_block ?_
    refine w_loop5 (fun (q : Int) (A1 : Option Addr) (n1 : Nat) (c1 : Nat) (acc : List Int) => [(6, .slice A1 n1 c1), (25, .slice A_ws ws.length c_ws), (26, .int .i64 ((ws.length : Nat) : Int)), (27, .int .i64 q)]) (fun (q : Int) (A1 : Option Addr) (n1 : Nat) (c1 : Nat) (acc : List Int) => [⟨5, 1, A1, n1, c1, ints .u8 acc, false⟩]) (fun (q : Int) (A1 : Option Addr) (n1 : Nat) (c1 : Nat) (acc : List Int) => (0 ≤ q) ∧ (q ≤ ws.length) ∧ (n1 = acc.length) ∧ (acc = (ws.take q.toNat).flatten)) (fun (q : Int) (A1 : Option Addr) (n1 : Nat) (c1 : Nat) (acc : List Int) => (ws.length - q).toNat) ?_ ?_
    ·
      exact ⟨0, A_6, 0, c_7, [], ⟨(by omega), (by omega), (rfl), (rfl)⟩, (Sub.cons rfl (Sub.cons rfl (Sub.cons rfl (Sub.cons rfl Sub.nil)))), fun _ h => h⟩
    intro q A1 n1 c1 acc ⟨hq0, hq1, hn1, hacc⟩
    have hal : acc.length ≤ ws.flatten.length := by rw [hacc]; exact flat_le _
    refine w_seq ?_
    refine w_reg ?_
    refine wr_y rfl (y_lt rfl rfl) ?_
    refine wr_nil ?_
    refine w_seq ?_
    refine w_if rfl (fun hc2 => ?_) (fun hc2 => ?_)
    ·
      have hfl2 := flat_le (ws := ws) (q + 1).toNat
      rw [flat_take_succ hq0 (by omega), List.length_append] at hfl2
      refine w_skip ?_
      refine w_seq ?_
      refine w_block ?_
      refine w_seq ?_
      refine w_reg ?_
      refine wr_y rfl (y_index1 Tryz.underlying22 sz23 rfl rfl (h_ws.c _) (by omega) (by omega)) ?_
      refine s_ws.elim (i := q) (by omega) (by omega) (fun A_8 c_9 hv_10 hr_11 hb_12 mhr_11 => ?_)
      refine wr_y rfl (y_ld Tryz.underlying23 rfl rfl rfl (h_ws.c _) hv_10) ?_
      refine wr_y rfl (y_assign rfl) ?_
      refine wr_nil ?_
      refine w_reg ?_
      refine wr_y rfl (y_move rfl) ?_
      refine wr_y rfl (y_move rfl) ?_
      refine wr_a rfl (a_appendI 0 rfl Tryz.underlying23 zb5 rfl rfl rfl (hr_11.c _) (by omega)) ?_
      rintro _ _ ⟨A_13, c_14, rfl, rfl⟩
      refine wr_rows (R1 := [⟨5, 1, A_13, (n1 + ((rdl ws q).length)), c_14, ints .u8 (acc ++ (rdl ws q)), false⟩]) rfl ?_
      refine wr_as (v := .slice A_13 (n1 + ((rdl ws q).length)) c_14) rfl ?_
      refine wr_y rfl (y_assign rfl) ?_
      refine wr_nil ?_
      refine w_reg ?_
      refine wr_y rfl (y_addI rfl rfl (by omega)) ?_
      refine wr_y rfl (y_move rfl) ?_
      refine wr_nil ?_
      exact ⟨q + 1, A_13, n1 + ((rdl ws q).length), c_14, acc ++ (rdl ws q), ⟨(by omega), (by omega), (by rw [List.length_append, hn1]), (by rw [flat_take_succ hq0 (by omega), hacc])⟩, (by omega), (Sub.cons rfl (Sub.cons rfl (Sub.cons rfl (Sub.cons rfl Sub.nil)))), fun _ h => h⟩
    ·
      refine w_exit ?_
      refine w_seq ?_
      refine w_reg ?_
      refine wr_y rfl (y_move rfl) ?_
      refine wr_y rfl (y_assign rfl) ?_
      refine wr_nil ?_
      refine w_retR (R1 := [⟨5, 1, A1, n1, c1, ints .u8 acc, false⟩]) (fun _ h => h.sel [0] (by decide) rfl) ?_
      refine ⟨_, rfl, ?_⟩
      rw [List.take_of_length_le (by omega)] at hacc
      subst hacc
      obtain rfl := hn1
      exact ⟨_, _, rfl, rfl⟩

end Go.Proofs.YtdfcnalkdlifiaaGreat

/-! ## E18 -/
namespace Go.Eng
open Go Go.RowKit Go.Proofs Go.Sort
/-- A world that has but grown. -/
theorem grown_eq {W w' : World} (hb : Below W.heap.size W w') (hd : W.drawn ≤ w'.drawn) : ∃ q os, w' = grow (W.drewN q) os := by
  refine ⟨w'.drawn - W.drawn, w'.heap.extract W.heap.size w'.heap.size, ?_⟩
  have hh : W.heap ++ w'.heap.extract W.heap.size w'.heap.size = w'.heap := by
    apply Array.ext_getElem?
    intro k
    rw [Array.getElem?_append]
    split
    · rename_i hk
      exact (hb.block k hk).symm
    · rename_i hk
      have := hb.size
      rw [Array.getElem?_extract]
      split
      · congr 1; omega
      · rename_i h2
        rw [Array.getElem?_eq_none (by omega)]
  obtain ⟨h1, h2, h3, h4, h5⟩ := w'
  obtain ⟨g1, g2, g3, g4, g5⟩ := W
  have b1 := hb.os
  have b2 := hb.tape
  have b3 := hb.output
  simp only at b1 b2 b3 hh hd
  subst b1; subst b2; subst b3
  simp only [grow, World.drewN, hh, World.mk.injEq, true_and, and_true]
  omega
section
variable {P : Program} {B : Nat} {w0 : World} {R : List Row}
/-- What the kit's contract of slices.SortFunc says, at elements of two cells. -/
def SortsK2 (P : Program) (f g : Nat) (cb : Array Value) : Prop :=
  ∀ (α : Type) [Inhabited α] (enc : α → List Value) (_ : ∀ x, (enc x).length = 2) (_ : ∀ x, ∀ v ∈ enc x, v.oneCell' = true) (cf : α → α → Int) (_ : SWO (ltOf cf)) (blk off cap : Nat) (d : Array α) (w : World)
    (_ : CmpLays P g cb enc 2 cf blk off d.size w) (_ : HoldsK enc 2 w blk off d) (_ : blk < w.heap.size) (_ : d.size < 4611686018427387904),
    Calls P f #[.slice (some ⟨blk, off, none⟩) d.size cap, .func (.func g) #[] cb] w fun e w' => e = .returned (.tuple #[]) ∧ ∃ d' n os, PermIn 0 d.size d d' ∧ SortedIn (ltOf cf) 0 d.size d' ∧ w' = sortWorldK enc 2 w blk off n d' os
/-- All rows but one, in a world that is asx it was but for that one's block. -/
theorem Hp.but {w W : World} (h : Hp B w0 w R) {i : Nat} {r : Row} (hi : R[i]? = some r) (ho : W.os = w.os) (ht : W.tape = w.tape) (hu : W.output = w.output) (hd : w.drawn ≤ W.drawn) (hs : w.heap.size ≤ W.heap.size)
    (hk : ∀ k, k < w.heap.size → (∀ a, r.A = some a → a.block ≠ k) → W.heap[k]? = w.heap[k]?) : Hp B w0 W (R.eraseIdx i) := by
  have hr : r ∈ R := List.mem_of_getElem? hi
  refine ⟨⟨ho.trans h.below.os, ht.trans h.below.tape, hu.trans h.below.output, Nat.le_trans h.below.size hs, fun k hkB => ?_⟩, Nat.le_trans h.base hs, fun q hq => ?_, h.apart.sublist (List.eraseIdx_sublist _ _), h.late.trans ⟨hd, fun k o hk' hc => ?_⟩⟩
  · rw [hk k (Nat.lt_of_lt_of_le hkB h.base) (fun a ha => by have := (Row.lies_lt (h.own r hr) a ha).1; omega), h.below.block k hkB]
  · obtain ⟨j, hj⟩ := List.mem_iff_getElem?.1 hq
    obtain ⟨j', hj', hne⟩ : ∃ j', R[j']? = some q ∧ j' ≠ i := by
      rw [List.getElem?_eraseIdx] at hj
      split at hj
      · exact ⟨j, hj, by omega⟩
      · exact ⟨j + 1, hj, by omega⟩
    refine Row.lies_of_block (h.own q (List.mem_of_getElem? hj')) fun a ha => hk a.block (Row.lies_lt (h.own q (List.mem_of_getElem? hj')) a ha).2 fun a' ha' => ?_
    have hjl := (List.getElem?_eq_some_iff.1 hj').1
    have hjv := (List.getElem?_eq_some_iff.1 hj').2
    have hil := (List.getElem?_eq_some_iff.1 hi).1
    have hiv := (List.getElem?_eq_some_iff.1 hi).2
    rcases Nat.lt_or_gt_of_ne hne with hlt | hlt
    · have := List.pairwise_iff_getElem.1 h.apart j' i hjl hil hlt
      rw [hjv, hiv] at this
      exact fun e => this a a' ha ha' e.symm
    · have := List.pairwise_iff_getElem.1 h.apart i j' hil hjl hlt
      rw [hjv, hiv] at this
      exact this a' a ha' ha
  · rw [hk k (Array.getElem?_eq_some_iff.1 hk').1 fun a ha e => ?_]
    · exact hk'
    · subst e
      obtain ⟨cs, e', fr, hc2⟩ := Row.lies_cells (h.own r hr) ha
      rw [hc2] at hk'
      cases hk'
      cases hc
theorem sort_pairs {f g : Nat} {cb : Array Value} (hSF : SortsK2 P f g cb) {T m c : Nat} {A : Option Addr} {l : List (Int × Int)} (i : Nat) (hi : R[i]? = some ⟨T, 2, A, m, c, prs l, false⟩) (hne : l ≠ []) (hsz : l.length < 4611686018427387904) (cmp : Int × Int → Int × Int → Int) (hO : SWO (ltOf cmp))
    (hclo : ∀ W, Hp B w0 W (R.eraseIdx i) → ∀ x ∈ l, ∀ y ∈ l,
      Ct P g (#[.agg #[.int .i64 x.1, .int .i64 x.2], .agg #[.int .i64 y.1, .int .i64 y.2]] ++ cb) W.heap.size W [] (fun v _ => v = .int .i64 (cmp x y))) :
    Ct P f #[.slice A m c, .func (.func g) #[] cb] B w0 R (fun v R' => v = .tuple #[] ∧ ∃ l', l'.Perm l ∧ l'.Pairwise (fun x y => ¬ cmp y x < 0) ∧ R' = R.set i ⟨T, 2, A, m, c, prs l', false⟩) := by
  intro w hw
  have hown := Row.lies_w (hw.own _ (List.mem_of_getElem? hi)) rfl
  have hrd := Row.rd (hw.own _ (List.mem_of_getElem? hi))
  have hm : m = l.length := by
    have := hrd.len
    rw [prs_length] at this
    simp only at this
    omega
  have hpos : 0 < l.length := List.length_pos_iff.2 hne
  rcases hown.2 with ⟨_, hn⟩ | ⟨blk, cap, cur, hv, hb, hg, hnc, hcm, hcs, ht⟩
  · simp only at hn; omega
  simp only [Value.slice.injEq, true_and] at hv
  obtain ⟨rfl, rfl⟩ := hv
  simp only at ht hcs hg hnc
  haveI : Inhabited { p : Int × Int // p ∈ l } := ⟨⟨l[0], List.getElem_mem _⟩⟩
  let d : Array { p : Int × Int // p ∈ l } := l.attach.toArray
  have hds : d.size = l.length := by simp [d]
  have hdv : d.toList.map Subtype.val = l := List.attach_map_subtype_val l
  have hlt : blk < w.heap.size := (Array.getElem?_eq_some_iff.1 hg).1
  have hH : HoldsK encP 2 w blk 0 d := by
    intro j hj
    have hj' : j < l.length * 2 := by
      have : j < (flatK encP 2 d).size := hj
      rw [size_flatK, hds] at this
      exact this
    have hf := flatK_prs d
    rw [hdv] at hf
    have e : (prs l)[j]? = some ((flatK encP 2 d)[j]!) := by
      rw [← hf, Array.getElem?_toList, Array.getElem?_eq_getElem hj, getElem!_pos _ j hj]
    refine ⟨?_, ?_⟩
    · rw [Nat.zero_add]
      exact hw.cellAt i hi rfl e
    · exact hw.openAt i (0 + j) hi rfl rfl
  have hcmp : CmpLays P g cb (encP (l := l)) 2 (fun x y => cmp x.1 y.1) blk 0 d.size w := by
    intro m' os dk hdk x y
    have hW : w.heap.size ≤ (sortWorldK (encP (l := l)) 2 w blk 0 m' dk os).heap.size := by
      unfold sortWorldK
      rw [size_grow]
      unfold putRowK
      rw [Go.Sort.size_putRow]
      exact Nat.le_add_right _ _
    have hk : ∀ k, k < w.heap.size → (∀ a : Addr, some (⟨blk, 0, none⟩ : Addr) = some a → a.block ≠ k) → (sortWorldK (encP (l := l)) 2 w blk 0 m' dk os).heap[k]? = w.heap[k]? := by
      intro k hk hne
      have hbk : blk ≠ k := hne _ rfl
      unfold sortWorldK
      rw [heap_grow_old _ _ (by unfold putRowK; rw [Go.Sort.size_putRow]; exact hk)]
      simp [putRowK, putRow, mapBlock, Array.getElem?_modify, hbk, Sort.ahead]
    refine (hclo _ (hw.but (W := sortWorldK (encP (l := l)) 2 w blk 0 m' dk os) hi rfl rfl rfl (by show w.drawn ≤ w.drawn + m'; omega) hW hk) x.1 x.2 y.1 y.2 _ (Hp.refl _)).mono ?_
    rintro e w' ⟨v, R', rfl, hh, rfl⟩
    exact ⟨rfl, grown_eq hh.below hh.late.1⟩
  have hO' : SWO (ltOf fun (x y : { p : Int × Int // p ∈ l }) => cmp x.1 y.1) := ⟨fun x => hO.irrefl x.1, fun x y z => hO.trans x.1 y.1 z.1, fun x y z => hO.ntrans x.1 y.1 z.1⟩
  have hcall := hSF _ encP (fun _ => rfl) (fun x v hv => by simp [encP] at hv; rcases hv with rfl | rfl <;> rfl) _ hO' blk 0 c d w hcmp hH hlt (by rw [hds]; exact hsz)
  rw [hds, ← hm] at hcall
  refine hcall.mono ?_
  rintro e w' ⟨rfl, d', n, os, ⟨hs', _, hperm⟩, hsort, rfl⟩
  have hd's : d'.size = l.length := by rw [hs', hds]
  refine ⟨_, _, rfl, ?_, rfl, d'.toList.map Subtype.val, ?_, ?_, rfl⟩
  · have hheap : (sortWorldK encP 2 w blk 0 n d' os).heap[blk]? = some (.cells (putCells id 0 (flatK encP 2 d') cur) T (0, 0)) := by
      unfold sortWorldK
      rw [heap_grow_old _ _ (by unfold putRowK; rw [Go.Sort.size_putRow]; exact hlt)]
      simp [putRowK, putRow, mapBlock, Array.getElem?_modify, Sort.ahead, hg, onCells]
    refine hw.upd hi (row := some blk) ⟨rfl, rfl, rfl, ?_, fun k hk hne => ?_⟩ ?_ (fun k hk => ?_) ?_ (fun a' ha' => .inl ⟨a', ha', rfl⟩)
    · unfold sortWorldK
      rw [size_grow]
      unfold putRowK
      rw [Go.Sort.size_putRow]
      exact Nat.le_add_right _ _
    · have hbk : blk ≠ k := fun e => hne (by rw [e])
      unfold sortWorldK
      rw [heap_grow_old _ _ (by unfold putRowK; rw [Go.Sort.size_putRow]; exact hk)]
      simp [putRowK, putRow, mapBlock, Array.getElem?_modify, hbk, Sort.ahead]
    · show w.drawn ≤ w.drawn + n
      omega
    · obtain rfl := Option.some.inj hk
      exact ⟨_, rfl, rfl⟩
    · unfold Row.lies
      simp only
      refine ⟨by rw [prs_length, List.length_map, Array.length_toList, hd's, hm], .inr ⟨blk, c, _, rfl, hb, hheap, hnc, hcm, ?_, ?_⟩⟩
      · simp only [putCells, Array.size_mapIdx]
        exact hcs
      · have hf := flatK_prs d'
        rw [← hf]
        have hfs : (flatK encP 2 d').size = m * 2 := by rw [size_flatK, hd's, hm]
        apply List.ext_getElem?
        intro t
        rw [List.getElem?_take]
        split
        · rename_i htm
          have htc : t < cur.size := by
            have : m * 2 ≤ c * 2 := Nat.mul_le_mul_right _ hnc
            omega
          rw [Array.getElem?_toList, Array.getElem?_toList, Array.getElem?_eq_getElem (by simp [putCells]; exact htc), Array.getElem?_eq_getElem (by rw [hfs]; exact htm)]
          simp only [putCells, Array.getElem_mapIdx, id]
          rw [if_pos ⟨Nat.zero_le _, by rw [Nat.zero_add, hfs]; exact htm⟩, Nat.sub_zero, getElem!_pos _ t (by rw [hfs]; exact htm)]
        · rename_i htm
          rw [List.getElem?_eq_none (by rw [Array.length_toList, hfs]; omega)]
  · have e1 : (d'.extract 0 m).toList = d'.toList := by rw [show m = d'.size by omega]; simp
    have e2 : (d.extract 0 m).toList = d.toList := by rw [show m = d.size by omega]; simp
    rw [e1, e2] at hperm
    have := hperm.map Subtype.val
    rwa [hdv] at this
  · refine List.pairwise_map.2 (List.pairwise_iff_getElem.2 fun a b ha hb' hab => ?_)
    rw [Array.length_toList] at ha hb'
    have h1 := hsort a b (Nat.zero_le _) hab (by omega)
    rw [getElem!_pos d' a ha, getElem!_pos d' b hb'] at h1
    simp only [ltOf, decide_eq_false_iff_not] at h1
    simpa using h1
end
end Go.Eng

/-! ## E21 -/
namespace Go.Eng
open Go Go.RowKit
section
variable {B : Nat} {w0 w w' : World} {R R' : List Row}
theorem Hp.allocObj (h : Hp B w0 w R) (o : Obj) : Hp B w0 (w.alloc o) R :=
  h.join (Rn := []) ⟨(Below.refl _ _).alloc (Nat.le_refl _) _, by simp, fun _ hr => (by cases hr), .nil, Late.alloc _ _⟩
theorem Hp.putObj (h : Hp B w0 w R) {l : Nat} {o : Obj} (ho : w.heap[l]? = some o) (hn : notCells o = true) (o' : Obj) (hB : B ≤ l) (h0 : w0.heap.size ≤ l) : Hp B w0 (w.putObj l o') R := by
  refine ⟨h.below.trans ((Below.refl _ _).grown (grownBy_putObj' w l o') h.base fun k e => by cases e; exact hB), by rw [World.putObj_size]; exact h.base, fun r hr => ?_, h.apart, ⟨h.late.1, fun k q hk hc => ?_⟩⟩
  · refine Row.lies_of_block (h.own r hr) fun a ha => World.putObj_heap_other fun e => ?_
    obtain ⟨cs, e', fr, hc⟩ := Row.lies_cells (h.own r hr) ha
    rw [e, ho] at hc
    cases hc
    cases hn
  · rw [World.putObj_heap_other (fun e => by have := (Array.getElem?_eq_some_iff.1 hk).1; omega)]
    exact h.late.2 k q hk hc
theorem Hp.rebase (h : Hp B w0 w R) : Hp B w w R := ⟨Below.refl _ _, h.base, h.own, h.apart, Late.refl _⟩
theorem Hp.comp (h : Hp B w0 w R) (h' : Hp B w w' R') : Hp B w0 w' R' := ⟨h.below.trans h'.below, h'.base, h'.own, h'.apart, h.late.trans h'.late⟩
/-- What lay in the first world reads the same over a later base. -/
theorem Rd.cb {W : World} {A : Option Addr} {n c sz : Nat} {xs : List Value} (h : Rd w A n c sz xs) (hb : Below w.heap.size w W) (R : List Row) : RdC w.heap.size W R A n c sz xs :=
  fun _ hw => h.below (hb.trans hw.below)
end
def mark (D : Nat) : Deferred := { target := .collected D, args := #[] }
section
variable {P : Program} {n : Nd} {B : Nat} {w0 w00 : World} {F : Exit → Act → World → Prop} {L : Env} {R : List Row}
def V (P : Program) (n : Nd) (B : Nat) (w0 : World) (c : Code) (F : Exit → Act → World → Prop) (L : Env) (R : List Row) : Prop :=
  ∀ a w, Sat n L a → Hp B w0 w R → c.wpIn (NF n.rd) 0 P F a w
def FQ (F : Exit → Act → World → Prop) (n : Nd) (B : Nat) (w0 : World) : PostC :=
  ⟨fun L R => ∀ a w, Sat n L a → Hp B w0 w R → F .normal a w, fun L R => ∀ a w, Sat n L a → Hp B w0 w R → F .ret a w, fun i L R => ∀ a w, Sat n L a → Hp B w0 w R → F (.exit i) a w⟩
theorem v_w {c : Code} (h : W P n B w0 c (FQ F n B w0) L R) : V P n B w0 c F L R := fun a w hs hp => by
  refine wpIn_mono (h a w hs hp) fun e a' w' hq => ?_
  cases e with
  | normal => obtain ⟨L', R', hs', hp', hf⟩ := hq; exact hf a' w' hs' hp'
  | ret => obtain ⟨L', R', hs', hp', hf⟩ := hq; exact hf a' w' hs' hp'
  | exit i => obtain ⟨L', R', hs', hp', hf⟩ := hq; exact hf a' w' hs' hp'
  | goto l => exact hq.elim
  | panic ch => exact hq.elim
  | outgrown => exact hq.elim
theorem v_seqW {x y : Code} (h : W P n B w0 x { FQ F n B w0 with nrm := fun L R => V P n B w0 y F L R } L R) : V P n B w0 (.seq x y) F L R := fun a w hs hp => by
  refine wpIn_seq (wpIn_mono (h a w hs hp) fun e a' w' hq => ?_)
  cases e with
  | normal => obtain ⟨L', R', hs', hp', hf⟩ := hq; exact hf a' w' hs' hp'
  | ret => obtain ⟨L', R', hs', hp', hf⟩ := hq; exact hf a' w' hs' hp'
  | exit i => obtain ⟨L', R', hs', hp', hf⟩ := hq; exact hf a' w' hs' hp'
  | goto l => exact hq.elim
  | panic ch => exact hq.elim
  | outgrown => exact hq.elim
theorem v_seq {x y : Code} (h : V P n B w0 x (Exit.then (y.wpIn (NF n.rd) 0 P F) F) L R) : V P n B w0 (.seq x y) F L R := fun a w hs hp => wpIn_seq (h a w hs hp)
/-- What stands behind is met. -/
def VN (n : Nd) (B : Nat) (w0 : World) (F : Exit → Act → World → Prop) (L : Env) (R : List Row) : Prop := ∀ a w, Sat n L a → Hp B w0 w R → F .normal a w
theorem v_go {y : Code} {rd : Option Nat} (h : V P n B w0 y F L R) (hrd : n.rd = rd := by exact rfl) : VN n B w0 (Exit.then (y.wpIn (NF rd) 0 P F) F) L R := fun a w hs hp => by subst hrd; exact h a w hs hp
theorem v_goB {id : Nat} (h : VN n B w0 F L R) : VN n B w0 (Exit.inBlock id F) L R := h
theorem v_block {id : Nat} {c : Code} (h : V P n B w0 c (Exit.inBlock id F) L R) : V P n B w0 (.block id c) F L R := fun a w hs hp => wpIn_block (h a w hs hp)
/-- The slots of a round. -/
def prm : List Nat → List Value → Env → Env
  | p :: ps, v :: vs, L => prm ps vs ((p, v) :: L)
  | _, _, L => L
theorem Sat.prm : ∀ (pl : List Nat) (vs : List Value) {m : Nat} {ds : List Deferred} {rd : Option Nat} {L : Env} {t : Array Value}, pl.all (fun p => Nat.blt p m) = true → Sat ⟨m, ds, rd⟩ L { tmps := t, defers := ds } →
    Sat ⟨m, ds, rd⟩ (prm pl vs L) { tmps := (pl.zip vs).foldl (fun t (p, v) => t.setIfInBounds p v) t, defers := ds }
  | [], _, _, _, _, _, _, _, h => h
  | _ :: _, [], _, _, _, _, _, _, h => h
  | p :: pl, v :: vs, m, ds, rd, L, t, hp, h => by
    simp only [List.all_cons, Bool.and_eq_true] at hp
    have h1 : Sat ⟨m, ds, rd⟩ ((p, v) :: L) { tmps := t.setIfInBounds p v, defers := ds } := h.put (d := p) hp.1 v
    exact Sat.prm pl vs hp.2 h1
/-- An iterator without an end ahead: N elements, one by one; it reads what Rdy says. -/
def Iter (P : Program) (gf : Nat) (lb : Array Value) (Rdy : World → Prop) (N : Nat) (f : Nat → List Value) : Prop :=
  ∀ (l : Nat) (J : Nat → World → Prop) (W : World), (∀ k W, J k W → Rdy W) →
    (∀ k W, k < N → J k W → YieldAt Fence.wide 0 P l (f k).toArray W fun e W' => e = .returned (.bool true) ∧ J (k + 1) W') →
    J 0 W → CallsIn Fence.wide 0 P gf (#[.func (.yield l) #[] #[]] ++ lb) W fun e W' => (∃ v, e = .returned v) ∧ J N W'
/-- Where a function stands behind loops over functions: the base is a later world, in which the marks' blocks lie. -/
structure Gd (B : Nat) (w00 : World) (n : Nd) (w0 : World) : Prop where
  below : Below B w00 w0
  late : Late w00 w0
  nodup : n.ds.Nodup
  marks : ∀ d ∈ n.ds, ∃ D, d = mark D ∧ B ≤ D ∧ w00.heap.size ≤ D ∧ w0.heap[D]? = some (.deferred (some []))
theorem Gd.refl {m : Nat} : Gd B w00 (m : Nd) w00 := ⟨Below.refl _ _, Late.refl _, .nil, fun _ h => (by cases h)⟩
/-- The rounds of a loop, at whatever level: l the record, D the block of what is put off. -/
theorem rounds {σ : Type} {m : Nat} {pl : List Nat} {assign body : Code} {gf : Nat} {lb : Array Value} {Rdy : World → Prop} {N : Nat} {f : Nat → List Value} (it : Iter P gf lb Rdy N f)
    (hpl : pl.all (fun p => Nat.blt p m) = true) (hfl : ∀ k, (f k).length = pl.length) (Rx : Nat → σ → List Row) (J : Nat → σ → Prop) (hrdy : ∀ k s w, J k s → Hp B w0 w (Rx k s) → Rdy w)
    (round : ∀ l k s W2, k < N → J k s → Below B w0 W2 → W P ⟨m, [], some l⟩ B W2 assign ⟨fun L' R' => ∀ W3, Below B w0 W3 → W P ⟨m, [], some l⟩ B W3 body ⟨fun _ R'' => ∃ s', J (k + 1) s' ∧ ∀ W4 w, Hp B W4 w R'' → Hp B W4 w (Rx (k + 1) s'), fun _ _ => False, fun _ _ _ => False⟩ L' R', fun _ _ => False, fun _ _ _ => False⟩ (prm pl (f k) L) (Rx k s))
    {l : Nat} {rec : LoopState → Loop} {fn : FuncId} {t : Array Value} {Df : Nat} (hrec : rec = fun st => { state := st, pending := none, fn, tmps := t, params := pl.toArray, assign, body, defers := Df }) (ht : Sat ⟨m, [], some l⟩ L { tmps := t, defers := [] }) (hlB : B ≤ l) (hl0 : w0.heap.size ≤ l) (X : World → Prop)
    (hX : ∀ W W' R R', X W → Hp B w0 W R → Hp B W W' R' → X W') (hXp : ∀ W o, X W → X (W.putObj l o)) {W1 : World} (hL1 : W1.heap[l]? = some (.loop (rec .ready))) (hX1 : X W1) {s0 : σ} (hJ0 : J 0 s0) (hp1 : Hp B w0 W1 (Rx 0 s0)) :
    CallsIn Fence.wide 0 P gf (#[.func (.yield l) #[] #[]] ++ lb) W1 fun e W' => (∃ v, e = .returned v) ∧ ∃ s, J N s ∧ Hp B w0 W' (Rx N s) ∧ W'.heap[l]? = some (.loop (rec .ready)) ∧ X W' := by
  refine it l (fun k W => ∃ s, J k s ∧ Hp B w0 W (Rx k s) ∧ W.heap[l]? = some (.loop (rec .ready)) ∧ X W) W1 (fun k W ⟨s, hJ, hp, _⟩ => hrdy k s W hJ hp) ?_ ⟨s0, hJ0, hp1, hL1, hX1⟩
  rintro k W hk ⟨s, hJ, hp, hl, hx⟩
  have hy := run_yield (P := P) (args := (f k).toArray) hl (by rw [hrec]; simp [hfl k])
  have hs1 : Sat ⟨m, [], some l⟩ (prm pl (f k) L) { tmps := (rec .ready).params.zip (f k).toArray |>.foldl (fun t (p, v) => t.setIfInBounds p v) (rec .ready).tmps, defers := [] } := by
    rw [hrec]
    simpa using Sat.prm pl (f k) hpl ht
  refine ⟨fn, _, assign, body, by rw [hy, hrec], roundIn_of_wpIn trivial ?_⟩
  refine wpIn_mono ((round l k s W hk hJ hp.below) _ _ (by rw [hrec] at hs1; exact hs1) hp.rebase) ?_
  rintro e a1 Wa hq
  cases e with
  | normal =>
    obtain ⟨L', R', hs', hp', hb⟩ := hq
    have hla := hp'.late.2 _ _ hl rfl
    have hpa := hp.comp hp'
    have hlt := (Array.getElem?_eq_some_iff.1 hla).1
    have hbr := run_beginRound (P := P) hla (by rw [hrec])
    refine ⟨_, hbr, ?_⟩
    have hp2 : Hp B w0 (Wa.putObj l (.loop { rec .ready with state := .busy })) R' := hpa.putObj hla rfl _ hlB hl0
    have hl2 : (Wa.putObj l (.loop { rec .ready with state := .busy })).heap[l]? = some (.loop { rec .ready with state := .busy }) := World.putObj_heap_same hlt
    have hx2 := hXp _ (.loop { rec .ready with state := .busy }) (hX _ _ _ _ hx hp hp')
    refine wpIn_mono (hb _ hp2.below a1 _ hs' hp2.rebase) ?_
    rintro e a3 W3 hq
    cases e with
    | normal =>
      obtain ⟨L3, R3, _, hp3, s', hJ', hR'⟩ := hq
      have hl3 := hp3.late.2 _ _ hl2 rfl
      have her := run_endRound (P := P) none hl3
      refine ⟨_, _, her, rfl, s', hJ', ?_, ?_, ?_⟩
      · exact (hp2.comp (hR' _ _ hp3)).putObj hl3 rfl _ hlB hl0
      · rw [World.putObj_heap_same (Array.getElem?_eq_some_iff.1 hl3).1, hrec]
        rfl
      · exact hXp _ _ (hX _ _ _ _ hx2 hp2 hp3)
    | ret => obtain ⟨_, _, _, _, h⟩ := hq; exact h.elim
    | exit id => obtain ⟨_, _, _, _, h⟩ := hq; exact h.elim
    | goto t => exact hq.elim
    | panic ch => exact hq.elim
    | outgrown => exact hq.elim
  | ret => obtain ⟨_, _, _, _, h⟩ := hq; exact h.elim
  | exit id => obtain ⟨_, _, _, _, h⟩ := hq; exact h.elim
  | goto t => exact hq.elim
  | panic ch => exact hq.elim
  | outgrown => exact hq.elim
/-- An outermost loop over a function. -/
theorem v_range {σ : Type} {m : Nat} {ds : List Deferred} {g : Operand} {pl : List Nat} {assign body : Code} {gf : Nat} {lb : Array Value} {Rdy : World → Prop} {N : Nat} {f : Nat → List Value} (hg : ev L g = some (.func (.func gf) #[] lb))
    (hen : ∀ args w, (callFunc gf args).run P w = .ok (.enter gf args) w) (it : Iter P gf lb Rdy N f)
    (hpl : pl.all (fun p => Nat.blt p m) = true) (hfl : ∀ k, (f k).length = pl.length) (hG : Gd B w00 ⟨m, ds, none⟩ w0) (Rx : Nat → σ → List Row) (J : Nat → σ → Prop) (h0 : ∃ s, J 0 s ∧ ∀ w, Hp B w0 w R → Hp B w0 w (Rx 0 s)) (hrdy : ∀ k s w, J k s → Hp B w0 w (Rx k s) → Rdy w)
    (round : ∀ l k s W2, k < N → J k s → Below B w0 W2 → W P ⟨m, [], some l⟩ B W2 assign ⟨fun L' R' => ∀ W3, Below B w0 W3 → W P ⟨m, [], some l⟩ B W3 body ⟨fun _ R'' => ∃ s', J (k + 1) s' ∧ ∀ W4 w, Hp B W4 w R'' → Hp B W4 w (Rx (k + 1) s'), fun _ _ => False, fun _ _ _ => False⟩ L' R', fun _ _ => False, fun _ _ _ => False⟩ (prm pl (f k) L) (Rx k s))
    (after : ∀ W5 D s, J N s → Below B w0 W5 → Gd B w00 ⟨m, mark D :: ds, none⟩ W5 → VN ⟨m, mark D :: ds, none⟩ B W5 F L (Rx N s)) :
    V P ⟨m, ds, none⟩ B w0 (.rangeFunc g pl.toArray assign body) F L R := by
  intro a w hs hp
  refine wpIn_rangeFunc ?_
  intro fn _
  obtain ⟨rec, hrec⟩ : ∃ rec : LoopState → Loop, rec = fun st => { state := st, pending := none, fn, tmps := a.tmps, params := pl.toArray, assign, body, defers := w.heap.size } := ⟨_, rfl⟩
  obtain ⟨W1, hW1⟩ : ∃ W1, (w.alloc (.deferred (some []))).alloc (.loop (rec .ready)) = W1 := ⟨_, rfl⟩
  have hL1 : W1.heap[w.heap.size + 1]? = some (.loop (rec .ready)) := by
    rw [← hW1]; have := World.alloc_heap_new (w.alloc (.deferred (some []))) (.loop (rec .ready)); rwa [World.size_alloc] at this
  have hK1 : W1.heap[w.heap.size]? = some (.deferred (some [])) := by
    rw [← hW1]; exact (Below.heap_alloc _ _ _ (by simp)).trans (World.alloc_heap_new w _)
  obtain ⟨s0, hJ0, hR0⟩ := h0
  have hp1 : Hp B w0 W1 (Rx 0 s0) := by rw [← hW1]; exact ((hR0 w hp).allocObj _).allocObj _
  have hle0 : w0.heap.size ≤ w.heap.size := hp.below.size
  have hleB := hp.base
  refine ⟨w.heap.size + 1, [mark w.heap.size], W1, { target := .fn (.func gf) lb, args := #[.func (.yield (w.heap.size + 1)) #[] #[]] }, W1, gf, #[.func (.yield (w.heap.size + 1)) #[] #[]] ++ lb, W1, ?_, ?_, fun _ _ => trivial, ?_, fun h => (by cases h), ?_⟩
  · rw [← hW1, hrec]; exact run_enterLoop_outer _ _ _ _ _
  · simp only [resolve, hs.ev hg]
    simp [go_sem]
  · simp [invoke, go_sem, hen]
  · refine CallsIn.mono (rounds (w0 := w0) (m := m) (L := L) it hpl hfl Rx J hrdy round (l := w.heap.size + 1) (rec := rec) hrec ⟨hs.size, rfl, hs.val⟩ (by omega) (by omega) (fun W => W.heap[w.heap.size]? = some (.deferred (some [])) ∧ Late w W) ?_ ?_ hL1 ⟨hK1, ?_⟩ hJ0 hp1) ?_
    · rintro W W' R R' ⟨hk, hl⟩ _ h2
      exact ⟨h2.late.2 _ _ hk rfl, hl.trans h2.late⟩
    · rintro W o ⟨hk, hl⟩
      refine ⟨(World.putObj_heap_other (by omega)).trans hk, hl.1, fun k q hk' hc => ?_⟩
      rw [World.putObj_heap_other (fun e => by have := (Array.getElem?_eq_some_iff.1 hk').1; omega)]
      exact hl.2 k q hk' hc
    · rw [← hW1]
      exact (Late.alloc _ _).trans (Late.alloc _ _)
    · rintro e W2 ⟨⟨v, rfl⟩, s, hJ, hp2, hl2, hk2, hlate⟩
      have hel := run_endLoop (P := P) hl2 (by rw [hrec]; simp)
      have hpn : (rec .ready).pending = none := by rw [hrec]
      refine ⟨none, W2.putObj (w.heap.size + 1) (.loop { rec .ready with state := .exhausted }), hel.trans (congrArg (fun p => Result.ok p _) hpn), ?_⟩
      have hp3 : Hp B w0 (W2.putObj (w.heap.size + 1) (.loop { rec .ready with state := .exhausted })) (Rx N s) := hp2.putObj hl2 rfl _ (by omega) (by omega)
      have hk3 : (W2.putObj (w.heap.size + 1) (.loop { rec .ready with state := .exhausted })).heap[w.heap.size]? = some (.deferred (some [])) := (World.putObj_heap_other (by omega)).trans hk2
      have hlate3 : Late w (W2.putObj (w.heap.size + 1) (.loop { rec .ready with state := .exhausted })) := ⟨hlate.1, fun k q hk' hc => by
        rw [World.putObj_heap_other (fun e => by have := (Array.getElem?_eq_some_iff.1 hk').1; omega)]
        exact hlate.2 k q hk' hc⟩
      have hds := hs.defers
      refine after _ w.heap.size s hJ hp3.below ⟨hG.below.trans hp3.below, hG.late.trans hp3.late, List.nodup_cons.2 ⟨fun hmem => ?_, hG.nodup⟩, fun d hd => ?_⟩ _ _ ⟨hs.size, by simp only [List.singleton_append, hds], hs.val⟩ hp3.rebase
      · obtain ⟨D, he, _, _, hD⟩ := hG.marks _ hmem
        have h1 := (Array.getElem?_eq_some_iff.1 hD).1
        simp only [mark, Deferred.mk.injEq, Target.collected.injEq, and_true] at he
        omega
      · rcases List.mem_cons.1 hd with rfl | hd
        · exact ⟨_, rfl, by omega, by have := hG.below.size; omega, hk3⟩
        · obtain ⟨D, he, h1, h2, hD⟩ := hG.marks _ hd
          exact ⟨D, he, h1, h2, hp3.late.2 _ _ hD rfl⟩
theorem v_range4 {σ0 σ1 σ2 σ3 : Type} {m : Nat} {ds : List Deferred} {g : Operand} {pl : List Nat} {assign body : Code} {gf : Nat} {lb : Array Value} {Rdy : World → Prop} {N : Nat} {f : Nat → List Value} (hg : ev L g = some (.func (.func gf) #[] lb))
    (hen : ∀ args w, (callFunc gf args).run P w = .ok (.enter gf args) w) (it : Iter P gf lb Rdy N f)
    (hpl : pl.all (fun p => Nat.blt p m) = true) (hfl : ∀ k, (f k).length = pl.length) (hG : Gd B w00 ⟨m, ds, none⟩ w0) (Rx : Nat → σ0 → σ1 → σ2 → σ3 → List Row) (J : Nat → σ0 → σ1 → σ2 → σ3 → Prop)
    (h0 : ∃ x0 x1 x2 x3, J 0 x0 x1 x2 x3 ∧ ∀ w, Hp B w0 w R → Hp B w0 w (Rx 0 x0 x1 x2 x3)) (hrdy : ∀ k x0 x1 x2 x3 w, J k x0 x1 x2 x3 → Hp B w0 w (Rx k x0 x1 x2 x3) → Rdy w)
    (round : ∀ l k x0 x1 x2 x3 W2, k < N → J k x0 x1 x2 x3 → Below B w0 W2 → W P ⟨m, [], some l⟩ B W2 assign ⟨fun L' R' => ∀ W3, Below B w0 W3 → W P ⟨m, [], some l⟩ B W3 body ⟨fun _ R'' => ∃ y0 y1 y2 y3, J (k + 1) y0 y1 y2 y3 ∧ ∀ W4 w, Hp B W4 w R'' → Hp B W4 w (Rx (k + 1) y0 y1 y2 y3), fun _ _ => False, fun _ _ _ => False⟩ L' R', fun _ _ => False, fun _ _ _ => False⟩ (prm pl (f k) L) (Rx k x0 x1 x2 x3))
    (after : ∀ W5 D x0 x1 x2 x3, J N x0 x1 x2 x3 → Below B w0 W5 → Gd B w00 ⟨m, mark D :: ds, none⟩ W5 → VN ⟨m, mark D :: ds, none⟩ B W5 F L (Rx N x0 x1 x2 x3)) :
    V P ⟨m, ds, none⟩ B w0 (.rangeFunc g pl.toArray assign body) F L R := by
  obtain ⟨x0, x1, x2, x3, h1, h2⟩ := h0
  refine v_range (σ := σ0 × σ1 × σ2 × σ3) hg hen it hpl hfl hG (fun k p => Rx k p.1 p.2.1 p.2.2.1 p.2.2.2) (fun k p => J k p.1 p.2.1 p.2.2.1 p.2.2.2) ⟨(x0, x1, x2, x3), h1, h2⟩ (fun k p => hrdy k p.1 p.2.1 p.2.2.1 p.2.2.2) (fun l k p W2 hk hp hb => w_mono (round l k p.1 p.2.1 p.2.2.1 p.2.2.2 W2 hk hp hb) ?_ (fun _ _ h => h) (fun _ _ _ h => h)) (fun W5 D p => after W5 D p.1 p.2.1 p.2.2.1 p.2.2.2)
  intro L' R' h W3 hb3
  refine w_mono (h W3 hb3) ?_ (fun _ _ h => h) (fun _ _ _ h => h)
  rintro _ R'' ⟨y0, y1, y2, y3, g1, g2⟩
  exact ⟨(y0, y1, y2, y3), g1, g2⟩
def Fin (P : Program) (fn : Func) (B : Nat) (w00 : World) (Post : Value → List Row → Prop) : Exit → Act → World → Prop :=
  bodyPostM Fence.wide 0 P fn fun e w' => ∃ v R', e = .returned v ∧ Hp B w00 w' R' ∧ Post v R'
theorem leaves_marks {fn : Func} {Post : Value → List Row → Prop} {tmps : Array Value} {v : Value} {w0 : World} (hB : Below B w00 w0) (hL : Late w00 w0) : ∀ (ds : List Deferred) (w : World), ds.Nodup → (∀ d ∈ ds, ∃ D, d = mark D ∧ B ≤ D ∧ w00.heap.size ≤ D ∧ w.heap[D]? = some (.deferred (some []))) → Hp B w00 w R → (∀ w, (results fn tmps).run P w = .ok v w) → Post v R →
    LeavesInM Fence.wide 0 P fn tmps (fun e w' => ∃ v R', e = .returned v ∧ Hp B w00 w' R' ∧ Post v R') ds .returning w
  | [], w, _, _, hp, hr, hv => ⟨v, hr w, v, R, rfl, hp, hv⟩
  | d :: ds, w, hn, hm, hp, hr, hv => by
    obtain ⟨D, rfl, h1, h2, hD⟩ := hm _ (.head _)
    refine ⟨by simp, .inl ⟨D, _, rfl, run_takeDeferred hD, leaves_marks hB hL ds _ (List.nodup_cons.1 hn).2 (fun d hd => ?_) (hp.putObj hD rfl _ h1 h2) hr hv⟩⟩
    obtain ⟨D', he, h1', h2', hD'⟩ := hm d (.tail _ hd)
    refine ⟨D', he, h1', h2', (World.putObj_heap_other fun e => ?_).trans hD'⟩
    subst e
    subst he
    exact (List.nodup_cons.1 hn).1 hd
theorem fin_of {fn : Func} {Post : Value → List Row → Prop} {v : Value} (hG : Gd B w00 n w0) (hres : ∀ a w, Sat n L a → (results fn a.tmps).run P w = .ok v w) (hv : Post v R) : ∀ a w, Sat n L a → Hp B w0 w R → Fin P fn B w00 Post .ret a w ∧ Fin P fn B w00 Post .normal a w := by
  intro a w hs hp
  have hp' : Hp B w00 w R := ⟨hG.below.trans hp.below, hp.base, hp.own, hp.apart, hG.late.trans hp.late⟩
  have h := leaves_marks (P := P) (fn := fn) (Post := Post) (tmps := a.tmps) (v := v) hG.below hG.late n.ds w hG.nodup (fun d hd => by
    obtain ⟨D, he, h1, h2, hD⟩ := hG.marks d hd
    exact ⟨D, he, h1, h2, hp.late.2 _ _ hD rfl⟩) hp' (fun w => hres a w hs) hv
  rw [← hs.defers] at h
  exact ⟨h, h⟩
theorem fin1 {fn : Func} {Post : Value → List Row → Prop} {r : Nat} (hr : fn.results = #[.tmp r]) (hG : Gd B w00 n w0) (h : ∃ v, lk L r = some v ∧ Post v R) : ∀ a w, Sat n L a → Hp B w0 w R → Fin P fn B w00 Post .ret a w := by
  obtain ⟨v, hv, hpost⟩ := h
  exact fun a w hs hp => (fin_of hG (fun a w hs => by rw [results_tmp hr, hs.getD hv]) hpost a w hs hp).1
theorem fnV {f : FuncId} {fn : Func} {c : Code} {args : List Value} {Post : Value → List Row → Prop} (hf : P.funcs[f]? = some fn) (hb : fn.body = some c) (hl : Nat.ble args.length fn.ntmps = true)
    (h : V P (fn.ntmps : Nd) B w00 c (Fin P fn B w00 Post) (ini 0 args) R) : Ct P f args.toArray B w00 R Post := by
  intro w hw
  have hl' : args.length ≤ fn.ntmps := Nat.le_of_ble_eq_true hl
  refine callsIn_wide.1 (callsIn_of_wp_marks (F := Fence.wide) (n := 0) hf hb trivial (h _ w ⟨by simp; omega, rfl, fun t v ht => ?_⟩ hw))
  obtain ⟨_, h2⟩ := lk_ini args 0 t v ht
  simp only [Nat.sub_zero] at h2
  have hlt := (List.getElem?_eq_some_iff.1 h2).1
  rw [← h2]
  simp [Array.getElem?_append, hlt]
end
end Go.Eng

/-! ## E24 -/
namespace Go.Eng
open Go Go.RowKit
section
variable {P : Program} {n : Nd} {B : Nat} {w0 w00 : World} {F : Exit → Act → World → Prop} {L : Env} {R : List Row}
/-- What the slices of a row lead to, whatever the world in which these rows lie. -/
def SlR (k : IntKind) (Rs : List Row) (vals : List Value) (ls : List (List Int)) : Prop := vals.length = ls.length ∧ ∀ j : Nat, j < ls.length → ∃ (A : Option Addr) (c : Nat), vals[j]? = some (.slice A (ls.getD j []).length c) ∧ ∀ (B : Nat) (w0 w : World), Hp B w0 w Rs → Rd w A (ls.getD j []).length c 1 (ints k (ls.getD j []))
theorem SlR.nil (k : IntKind) : SlR k [] [] [] := ⟨rfl, fun j hj => by simp at hj⟩
theorem SlR.snoc {k : IntKind} {Rs : List Row} {vals : List Value} {ls : List (List Int)} {A : Option Addr} {n c e : Nat} {l : List Int} {ro : Bool} (h : SlR k Rs vals ls) (hn : n = l.length) : SlR k (⟨e, 1, A, n, c, ints k l, ro⟩ :: Rs) (vals ++ [.slice A n c]) (ls ++ [l]) := by
  subst hn
  refine ⟨by simp [h.1], fun j hj => ?_⟩
  rcases Nat.lt_or_ge j ls.length with g | g
  · obtain ⟨A', c', h1, h2⟩ := h.2 j g
    have e1 : (ls ++ [l]).getD j [] = ls.getD j [] := by
      rw [List.getD_eq_getElem?_getD, List.getD_eq_getElem?_getD, List.getElem?_append_left g]
    rw [e1]
    exact ⟨A', c', by rw [List.getElem?_append_left (by rw [h.1]; exact g)]; exact h1, fun B w0 w hw => h2 B w0 w hw.tail⟩
  · have hjl : j = ls.length := by simp at hj; omega
    subst hjl
    have e1 : (ls ++ [l]).getD ls.length [] = l := by simp [List.getD_eq_getElem?_getD]
    rw [e1]
    refine ⟨A, c, by rw [← h.1]; simp, fun B w0 w hw => ?_⟩
    exact rdr (R := ⟨e, 1, A, l.length, c, ints k l, ro⟩ :: Rs) 0 rfl w hw
theorem SlR.at {k : IntKind} {Rs : List Row} {vals : List Value} {ls : List (List Int)} (h : SlR k Rs vals ls) {i : Int} (h0 : 0 ≤ i) (h1 : i < ls.length) : ∃ (A : Option Addr) (c : Nat), vals[i.toNat]? = some (.slice A (rdl ls i).length c) ∧ ∀ (B : Nat) (w0 w : World), Hp B w0 w Rs → Rd w A (rdl ls i).length c 1 (ints k (rdl ls i)) := h.2 i.toNat (by omega)
theorem Hp.left {w : World} {X T : List Row} (h : Hp B w0 w (X ++ T)) : Hp B w0 w X := h.sublist (List.sublist_append_left X T)
theorem Hp.toTail0 {w : World} {X Rs Y : List Row} (h : Hp B w0 w ((X ++ Rs) ++ Y)) : Hp B w0 w (X ++ (Y ++ Rs)) := by
  refine h.perm ?_
  rw [List.append_assoc]
  exact List.Perm.append_left X List.perm_append_comm
/-- Rows that came up go behind the others. -/
theorem Hp.toTail {w : World} {X Rs Y T : List Row} (h : Hp B w0 w ((X ++ Rs) ++ (Y ++ T))) : Hp B w0 w (X ++ (Y ++ (Rs ++ T))) := by
  refine h.perm ?_
  rw [List.append_assoc]
  refine List.Perm.append_left X ?_
  rw [← List.append_assoc, ← List.append_assoc]
  exact List.Perm.append_right T List.perm_append_comm
end
end Go.Eng

/-! ## E26 -/
namespace Go.Eng
open Go Go.RowKit Go.Proofs Go.Sort
section
variable {P : Program} {B : Nat} {w0 : World} {R : List Row}
/-- What the kit's contract says at elements of k cells; at none; at elements of one cell. -/
def SortsK (P : Program) (f g : Nat) (cb : Array Value) (k : Nat) : Prop :=
  ∀ (α : Type) [Inhabited α] (enc : α → List Value) (_ : ∀ x, (enc x).length = k) (_ : ∀ x, ∀ v ∈ enc x, v.oneCell' = true) (cf : α → α → Int) (_ : SWO (ltOf cf)) (blk off cap : Nat) (d : Array α) (w : World)
    (_ : CmpLays P g cb enc k cf blk off d.size w) (_ : HoldsK enc k w blk off d) (_ : blk < w.heap.size) (_ : d.size < 4611686018427387904),
    Calls P f #[.slice (some ⟨blk, off, none⟩) d.size cap, .func (.func g) #[] cb] w fun e w' => e = .returned (.tuple #[]) ∧ ∃ d' n os, PermIn 0 d.size d d' ∧ SortedIn (ltOf cf) 0 d.size d' ∧ w' = sortWorldK enc k w blk off n d' os
def SortsC (P : Program) (f g : Nat) (cb : Array Value) : Prop :=
  ∀ (α : Type) [Inhabited α] (enc : α → Value) (_ : OneCell enc) (cf : α → α → Int) (_ : SWO (ltOf cf)) (blk off cap : Nat) (d : Array α) (w : World)
    (_ : CmpLays1 P g cb enc cf blk off d.size w) (_ : Holds enc w blk off d) (_ : blk < w.heap.size) (_ : d.size < 4611686018427387904),
    Calls P f #[.slice (some ⟨blk, off, none⟩) d.size cap, .func (.func g) #[] cb] w fun e w' => e = .returned (.tuple #[]) ∧ ∃ d' n os, PermIn 0 d.size d d' ∧ SortedIn (ltOf cf) 0 d.size d' ∧ w' = sortWorld enc w blk off n d' os
def SortsNone (P : Program) (f : Nat) : Prop := ∀ (p : Option Addr) (cap : Nat) (fv : Value) (w : World), Calls P f #[.slice p 0 cap, fv] w fun e w' => e = .returned (.tuple #[]) ∧ w' = w
/-- A row put anew. -/
theorem Hp.putRow {w : World} (hw : Hp B w0 w R) {i T k m c blk : Nat} {vs : List Value} (hi : R[i]? = some ⟨T, k, some ⟨blk, 0, none⟩, m, c, vs, false⟩) (xs : Array Value) (hxs : xs.size = m * k) (n : Nat) (os : Array Obj) :
    Hp B w0 (grow (putRow id (Sort.ahead w n) blk 0 xs) os) (R.set i ⟨T, k, some ⟨blk, 0, none⟩, m, c, xs.toList, false⟩) ∧ Hp B w0 (grow (putRow id (Sort.ahead w n) blk 0 xs) os) (R.eraseIdx i) := by
  have hown := Row.lies_w (hw.own _ (List.mem_of_getElem? hi)) rfl
  rcases hown.2 with ⟨hv, hn⟩ | ⟨g, cap, cur, hv, hb, hg, hnc, hcm, hcs, ht⟩
  · simp at hv
  simp only [Value.slice.injEq, Option.some.injEq, Addr.mk.injEq, and_true, true_and] at hv
  obtain ⟨rfl, rfl⟩ := hv
  simp only at ht hcs hg hnc hb
  have hlt : blk < w.heap.size := (Array.getElem?_eq_some_iff.1 hg).1
  have hsz : w.heap.size ≤ (grow (Go.Sort.putRow id (Sort.ahead w n) blk 0 xs) os).heap.size := by
    rw [size_grow, Go.Sort.size_putRow]
    exact Nat.le_add_right _ _
  have hk : ∀ k, k < w.heap.size → blk ≠ k → (grow (Go.Sort.putRow id (Sort.ahead w n) blk 0 xs) os).heap[k]? = w.heap[k]? := by
    intro k hk hbk
    rw [heap_grow_old _ _ (by rw [Go.Sort.size_putRow]; exact hk)]
    simp [Go.Sort.putRow, mapBlock, Array.getElem?_modify, hbk, Sort.ahead]
  have hheap : (grow (Go.Sort.putRow id (Sort.ahead w n) blk 0 xs) os).heap[blk]? = some (.cells (putCells id 0 xs cur) T (0, 0)) := by
    rw [heap_grow_old _ _ (by rw [Go.Sort.size_putRow]; exact hlt)]
    simp [Go.Sort.putRow, mapBlock, Array.getElem?_modify, Sort.ahead, hg, onCells]
  refine ⟨?_, hw.but hi rfl rfl rfl (by show w.drawn ≤ w.drawn + n; omega) hsz fun k h1 h2 => hk k h1 (h2 _ rfl)⟩
  refine hw.upd hi (row := some blk) ⟨rfl, rfl, rfl, hsz, fun k h1 hne => hk k h1 fun e => hne (by rw [e])⟩ ?_ (fun k hk => ?_) ?_ (fun a' ha' => .inl ⟨a', ha', rfl⟩)
  · show w.drawn ≤ w.drawn + n
    omega
  · obtain rfl := Option.some.inj hk
    exact ⟨_, rfl, rfl⟩
  · unfold Row.lies
    simp only
    refine ⟨by rw [Array.length_toList, hxs], .inr ⟨blk, c, _, rfl, hb, hheap, hnc, hcm, ?_, ?_⟩⟩
    · simp only [putCells, Array.size_mapIdx]
      exact hcs
    · apply List.ext_getElem?
      intro t
      rw [List.getElem?_take]
      split
      · rename_i htm
        have htc : t < cur.size := by
          have : m * k ≤ c * k := Nat.mul_le_mul_right _ hnc
          omega
        rw [Array.getElem?_toList, Array.getElem?_toList, Array.getElem?_eq_getElem (by simp [putCells]; exact htc), Array.getElem?_eq_getElem (by rw [hxs]; exact htm)]
        simp only [putCells, Array.getElem_mapIdx, id]
        rw [if_pos ⟨Nat.zero_le _, by rw [Nat.zero_add, hxs]; exact htm⟩, Nat.sub_zero, getElem!_pos _ t (by rw [hxs]; exact htm)]
      · rename_i htm
        rw [List.getElem?_eq_none (by rw [Array.length_toList, hxs]; omega)]
theorem flatK_list {α : Type} [Inhabited α] {enc : α → List Value} {k : Nat} (hk : ∀ x, (enc x).length = k) (d : Array α) : (flatK enc k d).toList = d.toList.flatMap enc := by
  have hlen : ∀ l : List α, (l.flatMap enc).length = l.length * k := fun l => by
    induction l with
    | nil => simp
    | cons x l ih => rw [List.flatMap_cons, List.length_append, ih, hk, List.length_cons, Nat.add_mul]; omega
  have hget : ∀ (l : List α) (t : Nat) (x : α), 0 < k → l[t / k]? = some x → (l.flatMap enc)[t]? = (enc x)[t % k]? := fun l => by
    induction l with
    | nil => intro t x _ h; simp at h
    | cons y l ih =>
      intro t x k0 h
      rw [List.flatMap_cons]
      rcases Nat.lt_or_ge t k with g | g
      · rw [Nat.div_eq_of_lt g] at h
        simp only [List.getElem?_cons_zero, Option.some.injEq] at h
        subst h
        rw [List.getElem?_append_left (by rw [hk]; exact g), Nat.mod_eq_of_lt g]
      · have e : t / k = (t - k) / k + 1 := by
          rw [← Nat.sub_add_cancel g, Nat.add_div_right _ k0]
          simp
        rw [e, List.getElem?_cons_succ] at h
        rw [List.getElem?_append_right (by rw [hk]; exact g), hk, ih (t - k) x k0 h, ← Nat.mod_eq_sub_mod g]
  apply List.ext_getElem?
  intro t
  have hs : (flatK enc k d).size = d.size * k := size_flatK _ _ _
  rcases Nat.lt_or_ge t (d.size * k) with h | h
  · have k0 : 0 < k := Nat.pos_of_ne_zero fun e => by subst e; simp at h
    have hdk : t / k < d.size := Nat.div_lt_of_lt_mul (by rw [Nat.mul_comm]; exact h)
    have e1 : (flatK enc k d)[t]? = some ((flatK enc k d)[t]!) := by
      rw [Array.getElem?_eq_getElem (by rw [hs]; exact h), getElem!_pos _ t (by rw [hs]; exact h)]
    rw [Array.getElem?_toList, e1, get_flatK enc k d t h, hget d.toList t d[t / k] k0 (by rw [Array.getElem?_toList, Array.getElem?_eq_getElem hdk]), getElem!_pos d _ hdk]
    have hm : t % k < (enc d[t / k]).length := by rw [hk]; exact Nat.mod_lt _ k0
    rw [List.getElem?_eq_getElem hm, getElem!_pos (enc d[t / k]) (t % k) hm]
  · rw [List.getElem?_eq_none (by rw [Array.length_toList, hs]; exact h), List.getElem?_eq_none (by rw [hlen, Array.length_toList]; exact h)]
theorem flat_len {α : Type} {enc : α → List Value} {k : Nat} (hk : ∀ x, (enc x).length = k) (l : List α) : (l.flatMap enc).length = l.length * k := by
  induction l with
  | nil => simp
  | cons x l ih => rw [List.flatMap_cons, List.length_append, ih, hk, List.length_cons, Nat.add_mul]; omega
theorem perm_of_permIn {α : Type} [Inhabited α] {d d' : Array α} (h : PermIn 0 d.size d d') : d'.toList.Perm d.toList := by
  obtain ⟨hs, _, hp⟩ := h
  have e1 : (d'.extract 0 d.size).toList = d'.toList := by rw [← hs]; simp
  have e2 : (d.extract 0 d.size).toList = d.toList := by simp
  rw [e1, e2] at hp
  exact hp
theorem sortedIn_list {α : Type} [Inhabited α] {cf : α → α → Int} {d' : Array α} {n : Nat} (h : SortedIn (ltOf cf) 0 n d') (hn : d'.size = n) : d'.toList.Pairwise fun x y => ¬ cf y x < 0 := by
  refine List.pairwise_iff_getElem.2 fun a b ha hb' hab => ?_
  rw [Array.length_toList] at ha hb'
  have h1 := h a b (Nat.zero_le _) hab (by omega)
  rw [getElem!_pos d' a ha, getElem!_pos d' b hb'] at h1
  simp only [ltOf, decide_eq_false_iff_not] at h1
  simpa using h1
theorem nil_row {w : World} (hw : Hp B w0 w R) {i T k c : Nat} {A : Option Addr} {vs : List Value} (hi : R[i]? = some ⟨T, k, A, 0, c, vs, false⟩) : R.set i ⟨T, k, A, 0, c, [], false⟩ = R ∧ vs = [] := by
  have hown := Row.lies_w (hw.own _ (List.mem_of_getElem? hi)) rfl
  have hl := hown.1
  simp only [Nat.zero_mul] at hl
  obtain rfl := List.eq_nil_of_length_eq_zero hl
  refine ⟨?_, rfl⟩
  apply List.ext_getElem?
  intro j
  rw [List.getElem?_set]
  split
  · rename_i h
    subst h
    split
    · exact hi.symm
    · rename_i h2
      rw [List.getElem?_eq_none (by omega)]
  · rfl
/-- slices.SortFunc over elements of some cells. -/
theorem sort_cells {α : Type} {f g k : Nat} {cb : Array Value} {enc : α → List Value} (hSF : SortsK P f g cb k) (hS0 : SortsNone P f) (hk : ∀ x, (enc x).length = k) (h1 : ∀ x, ∀ v ∈ enc x, v.oneCell' = true) {T c : Nat} {A : Option Addr} {l : List α} (i : Nat) (hi : R[i]? = some ⟨T, k, A, l.length, c, l.flatMap enc, false⟩) (hsz : l.length < 4611686018427387904) (cmp : α → α → Int) (hO : SWO (ltOf cmp))
    (hclo : ∀ W, Hp B w0 W (R.eraseIdx i) → ∀ x ∈ l, ∀ y ∈ l,
      Ct P g (#[.agg (enc x).toArray, .agg (enc y).toArray] ++ cb) W.heap.size W [] (fun v _ => v = .int .i64 (cmp x y))) :
    Ct P f #[.slice A l.length c, .func (.func g) #[] cb] B w0 R (fun v R' => v = .tuple #[] ∧ ∃ l' : List α, l'.Perm l ∧ l'.Pairwise (fun x y => ¬ cmp y x < 0) ∧ R' = R.set i ⟨T, k, A, l'.length, c, l'.flatMap enc, false⟩) := by
  intro w hw
  rcases l with _ | ⟨x0, l0⟩
  · refine (hS0 A c _ w).mono ?_
    rintro e w' ⟨rfl, rfl⟩
    obtain ⟨h1, h2⟩ := nil_row hw hi
    exact ⟨_, _, rfl, hw, rfl, [], .refl _, .nil, h1.symm⟩
  generalize hl : x0 :: l0 = l at *
  have hpos : 0 < l.length := by rw [← hl]; simp
  have hown := Row.lies_w (hw.own _ (List.mem_of_getElem? hi)) rfl
  rcases hown.2 with ⟨_, hn⟩ | ⟨blk, cap, cur, hv, hb, hg, hnc, hcm, hcs, ht⟩
  · simp only at hn; omega
  simp only [Value.slice.injEq, true_and] at hv
  obtain ⟨rfl, rfl⟩ := hv
  simp only at ht hcs hg hnc
  haveI : Inhabited { p : α // p ∈ l } := ⟨⟨l[0], List.getElem_mem _⟩⟩
  obtain ⟨d, hd⟩ : ∃ d : Array { p : α // p ∈ l }, d = l.attach.toArray := ⟨_, rfl⟩
  have hds : d.size = l.length := by rw [hd]; simp
  have hdv : d.toList.map Subtype.val = l := by rw [hd]; exact List.attach_map_subtype_val l
  have hk2 : ∀ x : { p : α // p ∈ l }, (enc x.1).length = k := fun x => hk x.1
  have hfm : ∀ e : List { p : α // p ∈ l }, e.flatMap (fun x => enc x.1) = (e.map Subtype.val).flatMap enc := fun e => by rw [List.flatMap_map]
  have hlt : blk < w.heap.size := (Array.getElem?_eq_some_iff.1 hg).1
  have hH : HoldsK (fun x : { p : α // p ∈ l } => enc x.1) k w blk 0 d := by
    intro j hj
    have hj' : j < l.length * k := by
      have : j < (flatK (fun x : { p : α // p ∈ l } => enc x.1) k d).size := hj
      rw [size_flatK, hds] at this
      exact this
    have hf := flatK_list hk2 d
    rw [hfm, hdv] at hf
    have e : (l.flatMap enc)[j]? = some ((flatK (fun x : { p : α // p ∈ l } => enc x.1) k d)[j]!) := by
      rw [← hf, Array.getElem?_toList, Array.getElem?_eq_getElem hj, getElem!_pos _ j hj]
    refine ⟨?_, ?_⟩
    · rw [Nat.zero_add]
      exact hw.cellAt i hi rfl e
    · exact hw.openAt i (0 + j) hi rfl rfl
  have hcmp : CmpLays P g cb (fun x : { p : α // p ∈ l } => enc x.1) k (fun x y => cmp x.1 y.1) blk 0 d.size w := by
    intro m' os dk hdk x y
    have hW := (hw.putRow hi (flatK (fun x : { p : α // p ∈ l } => enc x.1) k dk) (by rw [size_flatK, hdk, hds]) m' os).2
    refine (hclo (sortWorldK (fun x : { p : α // p ∈ l } => enc x.1) k w blk 0 m' dk os) hW x.1 x.2 y.1 y.2 _ (Hp.refl _)).mono ?_
    rintro e w' ⟨v, R', rfl, hh, rfl⟩
    exact ⟨rfl, grown_eq hh.below hh.late.1⟩
  have hO' : SWO (ltOf fun (x y : { p : α // p ∈ l }) => cmp x.1 y.1) := ⟨fun x => hO.irrefl x.1, fun x y z => hO.trans x.1 y.1 z.1, fun x y z => hO.ntrans x.1 y.1 z.1⟩
  have hcall := hSF _ (fun x : { p : α // p ∈ l } => enc x.1) hk2 (fun x => h1 x.1) _ hO' blk 0 c d w hcmp hH hlt (by rw [hds]; exact hsz)
  rw [hds] at hcall
  refine hcall.mono ?_
  rintro e w' ⟨rfl, d', n, os, hperm, hsort, rfl⟩
  rw [← hds] at hperm
  have hd's : d'.size = l.length := by rw [hperm.1, hds]
  have hW := (hw.putRow hi (flatK (fun x : { p : α // p ∈ l } => enc x.1) k d') (by rw [size_flatK, hd's]) n os).1
  rw [flatK_list hk2, hfm] at hW
  have hp' : (d'.toList.map Subtype.val).Perm l := by
    have := (perm_of_permIn hperm).map Subtype.val
    rwa [hdv] at this
  refine ⟨_, _, rfl, hW, rfl, d'.toList.map Subtype.val, hp', ?_, ?_⟩
  · exact List.pairwise_map.2 (sortedIn_list hsort hd's)
  · rw [hp'.length_eq]
/-- slices.SortFunc over elements of one cell. -/
theorem sort_cell1 {α : Type} {f g : Nat} {cb : Array Value} {enc : α → Value} (hSF : SortsC P f g cb) (hS0 : SortsNone P f) (h1 : ∀ x, (enc x).oneCell' = true) {T c : Nat} {A : Option Addr} {l : List α} (i : Nat) (hi : R[i]? = some ⟨T, 1, A, l.length, c, l.map enc, false⟩) (hsz : l.length < 4611686018427387904) (cmp : α → α → Int) (hO : SWO (ltOf cmp))
    (hclo : ∀ W, Hp B w0 W (R.eraseIdx i) → ∀ x ∈ l, ∀ y ∈ l,
      Ct P g (#[enc x, enc y] ++ cb) W.heap.size W [] (fun v _ => v = .int .i64 (cmp x y))) :
    Ct P f #[.slice A l.length c, .func (.func g) #[] cb] B w0 R (fun v R' => v = .tuple #[] ∧ ∃ l' : List α, l'.Perm l ∧ l'.Pairwise (fun x y => ¬ cmp y x < 0) ∧ R' = R.set i ⟨T, 1, A, l'.length, c, l'.map enc, false⟩) := by
  intro w hw
  rcases l with _ | ⟨x0, l0⟩
  · refine (hS0 A c _ w).mono ?_
    rintro e w' ⟨rfl, rfl⟩
    obtain ⟨h1, h2⟩ := nil_row hw hi
    exact ⟨_, _, rfl, hw, rfl, [], .refl _, .nil, h1.symm⟩
  generalize hl : x0 :: l0 = l at *
  have hpos : 0 < l.length := by rw [← hl]; simp
  have hown := Row.lies_w (hw.own _ (List.mem_of_getElem? hi)) rfl
  rcases hown.2 with ⟨_, hn⟩ | ⟨blk, cap, cur, hv, hb, hg, hnc, hcm, hcs, ht⟩
  · simp only at hn; omega
  simp only [Value.slice.injEq, true_and] at hv
  obtain ⟨rfl, rfl⟩ := hv
  simp only at ht hcs hg hnc
  haveI : Inhabited { p : α // p ∈ l } := ⟨⟨l[0], List.getElem_mem _⟩⟩
  obtain ⟨d, hd⟩ : ∃ d : Array { p : α // p ∈ l }, d = l.attach.toArray := ⟨_, rfl⟩
  have hds : d.size = l.length := by rw [hd]; simp
  have hdv : d.toList.map Subtype.val = l := by rw [hd]; exact List.attach_map_subtype_val l
  have hlt : blk < w.heap.size := (Array.getElem?_eq_some_iff.1 hg).1
  have hput : ∀ (W : World) (dk : Array { p : α // p ∈ l }), putRow (fun x : { p : α // p ∈ l } => enc x.1) W blk 0 dk = putRow id W blk 0 (dk.map fun x => enc x.1) := by
    intro W dk
    unfold putRow
    congr 1
    funext cs
    unfold putCells
    apply Array.ext
    · simp
    · intro j h1 h2
      simp only [Array.getElem_mapIdx, Array.size_map, id, Nat.sub_zero, Nat.zero_add]
      split
      · rename_i hc
        rw [getElem!_pos dk j hc.2, getElem!_pos (dk.map fun x => enc x.1) j (by simpa using hc.2)]
        simp
      · rfl
  have hH : Holds (fun x : { p : α // p ∈ l } => enc x.1) w blk 0 d := by
    intro j hj
    have hj' : j < l.length := by rw [← hds]; exact hj
    have e : (l.map enc)[j]? = some (enc d[j]!.1) := by
      have e0 : (d.toList.map fun x => enc x.1) = l.map enc := by
        conv => rhs; rw [← hdv]
        rw [List.map_map]
        rfl
      rw [← e0, List.getElem?_map, Array.getElem?_toList, Array.getElem?_eq_getElem hj, getElem!_pos d j hj]
      rfl
    refine ⟨?_, ?_⟩
    · rw [Nat.zero_add]
      exact hw.cellAt i hi rfl e
    · exact hw.openAt i (0 + j) hi rfl rfl
  have hcmp : CmpLays1 P g cb (fun x : { p : α // p ∈ l } => enc x.1) (fun x y => cmp x.1 y.1) blk 0 d.size w := by
    intro m' os dk hdk x y
    have hW := (hw.putRow hi (dk.map fun x => enc x.1) (by simp [hdk, hds]) m' os).2
    rw [← hput] at hW
    refine (hclo (sortWorld (fun x : { p : α // p ∈ l } => enc x.1) w blk 0 m' dk os) hW x.1 x.2 y.1 y.2 _ (Hp.refl _)).mono ?_
    rintro e w' ⟨v, R', rfl, hh, rfl⟩
    exact ⟨rfl, grown_eq hh.below hh.late.1⟩
  have hO' : SWO (ltOf fun (x y : { p : α // p ∈ l }) => cmp x.1 y.1) := ⟨fun x => hO.irrefl x.1, fun x y z => hO.trans x.1 y.1 z.1, fun x y z => hO.ntrans x.1 y.1 z.1⟩
  have hcall := hSF _ (fun x : { p : α // p ∈ l } => enc x.1) (fun x => h1 x.1) _ hO' blk 0 c d w hcmp hH hlt (by rw [hds]; exact hsz)
  rw [hds] at hcall
  refine hcall.mono ?_
  rintro e w' ⟨rfl, d', n, os, hperm, hsort, rfl⟩
  rw [← hds] at hperm
  have hd's : d'.size = l.length := by rw [hperm.1, hds]
  have hW := (hw.putRow hi (d'.map fun x => enc x.1) (by simp [hd's]) n os).1
  rw [← hput] at hW
  have hp' : (d'.toList.map Subtype.val).Perm l := by
    have := (perm_of_permIn hperm).map Subtype.val
    rwa [hdv] at this
  have em : (d'.map fun x => enc x.1).toList = (d'.toList.map Subtype.val).map enc := by simp
  rw [em] at hW
  refine ⟨_, _, rfl, hW, rfl, d'.toList.map Subtype.val, hp', ?_, ?_⟩
  · exact List.pairwise_map.2 (sortedIn_list hsort hd's)
  · rw [hp'.length_eq]
end
end Go.Eng

/-! ## E16 -/
namespace Go.Eng
open Go Go.RowKit
theorem Rd.fromI {w : World} {A : Option Addr} {m c l : Nat} {k : IntKind} {xs : List Int} (hr : Rd w A m c 1 (ints k xs)) (h1 : l ≤ m) : Rd w (cutA A l c 1) (m - l) (c - l) 1 (ints k (xs.drop l)) :=
  RdC.fromI (hr.c []) h1 w (Hp.refl _)
theorem Rd.toI {w : World} {A : Option Addr} {m c h : Nat} {k : IntKind} {xs : List Int} (hr : Rd w A m c 1 (ints k xs)) (h2 : h ≤ m) : Rd w A h c 1 (ints k (xs.take h)) :=
  RdC.toI (hr.c []) h2 w (Hp.refl _)
theorem wf_byte {x : Int} (h : 0 ≤ x ∧ x < 256) : (Lit.int .u8 x).wf = true := by
  have h1 : IntKind.u8.min ≤ x := h.1
  have h2 : x ≤ IntKind.u8.max := by
    have : IntKind.u8.max = 255 := by decide
    omega
  simp [Lit.wf, h1, h2]
theorem SlW.snoc {k : IntKind} {w : World} {vals : List Value} {ls : List (List Int)} {A : Option Addr} {m c : Nat} {l : List Int} (h : SlW k w vals ls) (hr : Rd w A m c 1 (ints k l)) (hwf : ∀ x ∈ l, (Lit.int k x).wf = true) (hm : l.length ≤ 140737488355327) : SlW k w (vals ++ [.slice A m c]) (ls ++ [l]) := by
  obtain rfl := hr.lenI
  refine ⟨by rw [List.length_append, List.length_append, h.1]; rfl, fun j hj => ?_⟩
  rcases Nat.lt_or_ge j ls.length with a | a
  · obtain ⟨A', c', h1, h2, h3, h4⟩ := h.2 j a
    have e : (ls ++ [l]).getD j [] = ls.getD j [] := by
      rw [List.getD_eq_getElem?_getD, List.getD_eq_getElem?_getD, List.getElem?_append_left a]
    rw [e]
    exact ⟨A', c', by rw [List.getElem?_append_left (by rw [h.1]; exact a)]; exact h1, h2, h3, h4⟩
  · have hj' : j = ls.length := by rw [List.length_append] at hj; simp at hj; omega
    have e : (ls ++ [l]).getD j [] = l := by
      rw [List.getD_eq_getElem?_getD, hj', List.getElem?_append_right (Nat.le_refl _)]
      simp
    rw [e]
    refine ⟨A, c, ?_, hr, hwf, hm⟩
    rw [hj', ← h.1, List.getElem?_append_right (Nat.le_refl _)]
    simp
end Go.Eng

/-! ## Q11 -/
namespace Go.Pure
open Go Go.Eng
theorem mem_part {ws : List (List Int)} {w k : Int} {u : Int × Int} (hw0 : 0 ≤ w) (hw : w < ws.length) (hk : k ≤ (rdl ws w).length) (h : u ∈ tlist ws w.toNat ++ turnsOf w k.toNat) : TV ws u ∧ ltI u (w, k) := by
  rcases List.mem_append.1 h with h | h
  · obtain ⟨⟨a, b⟩, c, d⟩ := mem_tlist.1 h
    exact ⟨⟨a, by omega, c, d⟩, .inl (by simp only; omega)⟩
  · obtain ⟨a, b, c⟩ := mem_turnsOf.1 h
    obtain ⟨u1, u2⟩ := u
    simp only at a b c
    subst a
    exact ⟨⟨hw0, hw, b, by simp only; omega⟩, .inr ⟨rfl, by simp only; omega⟩⟩
theorem rdp_part {ws : List (List Int)} {w k : Int} {U : List (Int × Int)} (hw0 : 0 ≤ w) (hw : w < ws.length) (hk : k ≤ (rdl ws w).length) (hp : U.Perm (tlist ws w.toNat ++ turnsOf w k.toNat)) (i : Int) (h0 : 0 ≤ i) (h : i < U.length) : TV ws (rdp U i) ∧ ltI (rdp U i) (w, k) :=
  mem_part hw0 hw hk (hp.subset (rdp_mem h0 h))
def turnL (ws : List (List Int)) (t : Int × Int) : List Int := (rdl ws t.1).drop t.2.toNat ++ (rdl ws t.1).take t.2.toNat
theorem ins_down {ws : List (List Int)} {w k j : Int} {U : List (Int × Int)} (hw0 : 0 ≤ w) (hw : w < ws.length) (hk0 : 0 ≤ k) (hk : k < (rdl ws w).length) (hp : U.Perm (tlist ws w.toNat ++ turnsOf w k.toNat)) (hj0 : 0 ≤ j) (hj : j ≤ U.length)
    (hgt : ∀ i : Int, j ≤ i → i < U.length → ordO ws (w, k) (rdp U i)) (h : 0 < j ∧ cmpO (turnL ws (w, k)) (turnL ws (rdp U (j - 1))) < 0) : ∀ i : Int, j - 1 ≤ i → i < U.length → ordO ws (w, k) (rdp U i) := by
  intro i h1 h2
  rcases Int.lt_or_le i j with a | a
  · have : i = j - 1 := by omega
    subst this
    exact .inl ((cmp_turn ⟨hw0, hw, hk0, hk⟩ (rdp_part hw0 hw (by omega) hp (j - 1) (by omega) h2).1).1 h.2)
  · exact hgt i a h2
theorem ins_all {ws : List (List Int)} {w k j : Int} {U : List (Int × Int)} (hw0 : 0 ≤ w) (hw : w < ws.length) (hk0 : 0 ≤ k) (hk : k < (rdl ws w).length) (hp : U.Perm (tlist ws w.toNat ++ turnsOf w k.toNat)) (hs : U.Pairwise (ordO ws)) (hj0 : 0 ≤ j) (hj : j ≤ U.length)
    (hgt : ∀ i : Int, j ≤ i → i < U.length → ordO ws (w, k) (rdp U i)) (h : ¬ (0 < j ∧ cmpO (turnL ws (w, k)) (turnL ws (rdp U (j - 1))) < 0)) :
    (U.take j.toNat ++ [(w, k)] ++ U.drop j.toNat).Perm (tlist ws w.toNat ++ turnsOf w (k + 1).toNat) ∧ (U.take j.toNat ++ [(w, k)] ++ U.drop j.toNat).Pairwise (ordO ws) := by
  refine ⟨?_, ins_sorted hs ?_ ?_⟩
  · rw [turnsOf_succ w hk0, ← List.append_assoc]
    exact ins_perm.trans (List.Perm.append_right _ hp)
  · rcases Int.lt_or_le 0 j with a | a
    · have hq := rdp_part hw0 hw (by omega) hp (j - 1) (by omega) (by omega)
      refine ahead_all hs a hj (ordO_of_not (fun hl => h ⟨a, (cmp_turn ⟨hw0, hw, hk0, hk⟩ hq.1).2 hl⟩) hq.2)
    · intro y hy
      rw [show j.toNat = 0 by omega, List.take_zero] at hy
      cases hy
  · intro y hy
    obtain ⟨i, hi, rfl⟩ := List.mem_iff_getElem.1 hy
    rw [List.length_drop] at hi
    have hlt : j.toNat + i < U.length := by omega
    rw [List.getElem_drop]
    have := hgt (j + (i : Int)) (by omega) (by omega)
    have e : rdp U (j + (i : Int)) = U[j.toNat + i] := by
      unfold rdp
      rw [show (j + (i : Int)).toNat = j.toNat + i by omega, List.getD_eq_getElem?_getD, List.getElem?_eq_getElem hlt]
      rfl
    rwa [e] at this
end Go.Pure

/-! ## Q13 -/
namespace Go.Pure
open Go Go.Eng
/-- How much the first k numbers come to. -/
def ps (L : List Int) (k : Int) : Int := (L.take k.toNat).sum
theorem ps_succ {L : List Int} {k : Int} (h0 : 0 ≤ k) (h : k < L.length) : ps L (k + 1) = ps L k + rd L k := by
  unfold ps
  rw [take_rd h0 h, List.sum_append]
  simp
theorem ps_all {L : List Int} {k : Int} (h : L.length ≤ k) : ps L k = L.sum := by
  unfold ps
  rw [List.take_of_length_le (by omega)]
/-- The texts of these lengths, one behind the other. -/
def wordsK (s L : List Int) (k : Int) : List (List Int) := (List.range k.toNat).map fun i : Nat => (s.drop (ps L i).toNat).take (rd L i).toNat
theorem wordsK_len (s L : List Int) (k : Int) : (wordsK s L k).length = k.toNat := by simp [wordsK]
theorem rd_mem {L : List Int} {k : Int} (h0 : 0 ≤ k) (h : k < L.length) : rd L k ∈ L := by
  unfold rd
  rw [List.getD_eq_getElem?_getD, List.getElem?_eq_getElem (by omega)]
  exact List.getElem_mem _
/-- A text's factors. -/
def bws (s : List Int) : List (List Int) := wordsK s (facL s) (facL s).length
theorem all_len {ws : List (List Int)} {l : List (Int × Int)} (hp : l.Perm (tlist ws ws.length)) : l.length = ws.flatten.length := by
  rw [hp.length_eq, tlist_len ws _ (Nat.le_refl _)]
  unfold offs
  rw [List.take_length]
/-- The last byte of a rotation. -/
def lastB (ws : List (List Int)) (t : Int × Int) : Int := rd (rdl ws t.1) ((t.2 + (rdl ws t.1).length - 1) % ((rdl ws t.1).length : Int))
theorem lastB_mem {ws : List (List Int)} {t : Int × Int} (h : TV ws t) : lastB ws t ∈ ws.flatten := by
  obtain ⟨a, b, c, d⟩ := h
  have hn : (0 : Int) < (rdl ws t.1).length := by omega
  have h1 := Int.emod_nonneg (t.2 + (rdl ws t.1).length - 1) (Int.ne_of_gt hn)
  have h2 := Int.emod_lt_of_pos (t.2 + (rdl ws t.1).length - 1) hn
  exact List.mem_flatten.2 ⟨_, rdl_mem a b, rd_mem h1 h2⟩
theorem lastB_bytes {ws : List (List Int)} {l : List (Int × Int)} (hp : l.Perm (tlist ws ws.length)) (hb : ByteL ws.flatten) : ByteL (l.map (lastB ws)) := by
  intro x hx
  obtain ⟨t, ht, rfl⟩ := List.mem_map.1 hx
  exact hb _ (lastB_mem (mem_all.1 (hp.subset ht)))
/-- The order, by what can be worked out. -/
def ordB (ws : List (List Int)) (t u : Int × Int) : Bool := decide (cmpO (turnL ws t) (turnL ws u) < 0) || (decide (cmpO (turnL ws t) (turnL ws u) = 0) && (decide (t.1 < u.1) || (decide (t.1 = u.1) && decide (t.2 < u.2))))
theorem turnL_len {ws : List (List Int)} {t : Int × Int} (h : TV ws t) : 0 < (turnL ws t).length := by
  obtain ⟨a, b, c, d⟩ := h
  unfold turnL
  rw [List.length_append, List.length_drop, List.length_take]
  omega
theorem ordB_ord {ws : List (List Int)} {t u : Int × Int} (ht : TV ws t) (hu : TV ws u) (h : ordB ws t u = true) : ordO ws t u := by
  unfold ordB at h
  simp only [Bool.or_eq_true, Bool.and_eq_true, decide_eq_true_iff] at h
  rcases h with h | ⟨e, h⟩
  · exact .inl ((cmp_turn ht hu).1 h)
  · refine .inr ⟨fun i => ?_, h⟩
    have := (cmpO_zero (turnL_len ht) (turnL_len hu)).1 e i
    rw [show turnL ws t = (rdl ws t.1).drop t.2.toNat ++ (rdl ws t.1).take t.2.toNat from rfl, show turnL ws u = (rdl ws u.1).drop u.2.toNat ++ (rdl ws u.1).take u.2.toNat from rfl, om_tw ht, om_tw hu] at this
    exact this
/-- Which row of rotations is the one in order. -/
theorem the_order {ws : List (List Int)} {l m : List (Int × Int)} (hp : l.Perm (tlist ws ws.length)) (hs : l.Pairwise (ordO ws)) (hm : m.Perm (tlist ws ws.length)) (ho : m.Pairwise fun t u => ordB ws t u = true) : l = m := by
  refine one_order ordO_asymm (hp.trans hm.symm) hs ?_
  refine List.Pairwise.imp_of_mem (fun {a b} ha hb h => ordB_ord (mem_all.1 (hm.subset ha)) (mem_all.1 (hm.subset hb)) h) ho
end Go.Pure

/-! ## Q15 -/
namespace Go.Pure
open Go Go.Eng
theorem list_ext_rd {l m : List Int} (hl : l.length = m.length) (h : ∀ j : Int, 0 ≤ j → j < l.length → rd l j = rd m j) : l = m := by
  apply List.ext_getElem hl
  intro i h1 h2
  have := h i (by omega) (by omega)
  unfold rd at this
  rw [Int.toNat_natCast, List.getD_eq_getElem?_getD, List.getD_eq_getElem?_getD, List.getElem?_eq_getElem h1, List.getElem?_eq_getElem h2] at this
  exact this
theorem rd_range {f : Nat → Int} {n : Nat} {i : Int} (h0 : 0 ≤ i) (h : i < n) : rd ((List.range n).map f) i = f i.toNat := by
  unfold rd
  rw [List.getD_eq_getElem?_getD, List.getElem?_map, List.getElem?_range (by omega)]
  rfl
/-- How often each number stands there. -/
def cntV (ks : List Int) (k : Int) : List Int := (List.range k.toNat).map fun c : Nat => ((ks.filter fun x => decide (x = (c : Int))).length : Int)
theorem cntV_len (ks : List Int) (k : Int) : (cntV ks k).length = k.toNat := by simp [cntV]
theorem cntV_nil (k : Int) : cntV [] k = List.replicate k.toNat 0 := by
  unfold cntV
  simp only [List.filter_nil, List.length_nil]
  apply List.ext_getElem (by simp)
  intro i h1 h2
  simp
theorem rd_cntV {ks : List Int} {k c : Int} (h0 : 0 ≤ c) (h : c < k) : rd (cntV ks k) c = ((ks.filter fun x => decide (x = c)).length : Int) := by
  unfold cntV
  rw [rd_range h0 (by omega)]
  rw [show ((c.toNat : Nat) : Int) = c by omega]
theorem cntV_step {ks : List Int} {k x : Int} (h0 : 0 ≤ x) (h : x < k) : upd (cntV ks k) x (rd (cntV ks k) x + 1) = cntV (ks ++ [x]) k := by
  refine list_ext_rd (by rw [upd_length, cntV_len, cntV_len]) fun j h1 h2 => ?_
  rw [upd_length, cntV_len] at h2
  rw [rd_upd h0 h1 (by rw [cntV_len]; omega), rd_cntV (ks := ks ++ [x]) h1 (by omega), List.filter_append, List.length_append]
  by_cases e : j = x
  · subst e
    rw [if_pos rfl, rd_cntV h1 (by omega)]
    simp
  · rw [if_neg e, rd_cntV h1 (by omega)]
    have : ([x].filter fun y => decide (y = j)) = [] := by
      rw [List.filter_cons_of_neg (by simp; exact fun h => e h.symm)]
      rfl
    rw [this]
    simp
/-- How many there are ahead of each. -/
def startsV (cs : List Int) : List Int := (List.range cs.length).map fun i : Nat => ps cs i
theorem startsV_len (cs : List Int) : (startsV cs).length = cs.length := by simp [startsV]
theorem rd_startsV {cs : List Int} {i : Int} (h0 : 0 ≤ i) (h : i < cs.length) : rd (startsV cs) i = ps cs i := by
  unfold startsV
  rw [rd_range h0 h]
  rw [show ((i.toNat : Nat) : Int) = i by omega]
/-- Those of an order that have this key. -/
def ofKey (order keys : List Int) (c : Int) : List Int := order.filter fun i => decide (rd keys i = c)
def passK (order keys : List Int) : Nat → List Int
  | 0 => []
  | c + 1 => passK order keys c ++ ofKey order keys c
theorem ofKey_snoc_same {order keys : List Int} {i c : Int} (h : rd keys i = c) : ofKey (order ++ [i]) keys c = ofKey order keys c ++ [i] := by
  unfold ofKey
  rw [List.filter_append, List.filter_cons_of_pos (by simpa using h)]
  rfl
theorem ofKey_snoc_other {order keys : List Int} {i c : Int} (h : rd keys i ≠ c) : ofKey (order ++ [i]) keys c = ofKey order keys c := by
  unfold ofKey
  rw [List.filter_append, List.filter_cons_of_neg (by simpa using h)]
  simp
theorem ofKey_take_le (order keys : List Int) (c : Int) (m : Nat) : (ofKey (order.take m) keys c).length ≤ (ofKey order keys c).length :=
  ((List.take_sublist m order).filter _).length_le
theorem cnt_ofKey (order keys : List Int) {k c : Int} (h0 : 0 ≤ c) (h : c < k) : rd (cntV (order.map (rd keys)) k) c = (ofKey order keys c).length := by
  rw [rd_cntV h0 h, List.filter_map, List.length_map]
  rfl
theorem passK_len (order keys : List Int) {k : Int} : ∀ c : Nat, (c : Int) ≤ k → ps (cntV (order.map (rd keys)) k) c = (passK order keys c).length
  | 0, _ => rfl
  | c + 1, h => by
    rw [show ((c + 1 : Nat) : Int) = (c : Int) + 1 by omega, ps_succ (by omega) (by rw [cntV_len]; omega), passK_len order keys c (by omega), cnt_ofKey order keys (by omega) (by omega)]
    rw [passK, List.length_append]
    omega
theorem passK_mono (order keys : List Int) {c d : Nat} (h : c < d) : (passK order keys c).length + (ofKey order keys c).length ≤ (passK order keys d).length := by
  induction d with
  | zero => omega
  | succ d ih =>
    rw [passK, List.length_append]
    rcases Nat.lt_or_ge c d with a | a
    · have := ih a; omega
    · have : c = d := by omega
      subst this; omega
theorem passK_perm {order keys : List Int} {k : Nat} (hk : ∀ i ∈ order, 0 ≤ rd keys i ∧ rd keys i < k) : (passK order keys k).Perm order := by
  have gen : ∀ c : Nat, (passK order keys c).Perm (order.filter fun i => decide (0 ≤ rd keys i ∧ rd keys i < c)) := by
    intro c
    induction c with
    | zero =>
      have : (order.filter fun i => decide (0 ≤ rd keys i ∧ rd keys i < (0 : Nat))) = [] := by
        rw [List.filter_eq_nil_iff]
        intro i _
        simp only [decide_eq_true_eq]
        omega
      rw [this]
      exact .refl _
    | succ c ih =>
      rw [passK]
      refine (ih.append_right _).trans ?_
      unfold ofKey
      have e : order.filter (fun i => decide (rd keys i = (c : Int))) = (order.filter fun i => decide (0 ≤ rd keys i ∧ rd keys i < (c + 1 : Nat))).filter (fun i => ! decide (0 ≤ rd keys i ∧ rd keys i < (c : Int))) := by
        rw [List.filter_filter]
        refine List.filter_congr fun i _ => ?_
        by_cases h : rd keys i = (c : Int)
        · rw [decide_eq_true h, decide_eq_true (show 0 ≤ rd keys i ∧ rd keys i < ((c + 1 : Nat) : Int) by omega), decide_eq_false (show ¬ (0 ≤ rd keys i ∧ rd keys i < (c : Int)) by omega)]
          rfl
        · rw [decide_eq_false h]
          by_cases h2 : 0 ≤ rd keys i ∧ rd keys i < (c : Int)
          · rw [decide_eq_true h2]; simp
          · rw [decide_eq_false (show ¬ (0 ≤ rd keys i ∧ rd keys i < ((c + 1 : Nat) : Int)) by omega)]; simp
      have e2 : order.filter (fun i => decide (0 ≤ rd keys i ∧ rd keys i < (c : Nat))) = (order.filter fun i => decide (0 ≤ rd keys i ∧ rd keys i < (c + 1 : Nat))).filter (fun i => decide (0 ≤ rd keys i ∧ rd keys i < (c : Int))) := by
        rw [List.filter_filter]
        refine List.filter_congr fun i _ => ?_
        by_cases h2 : 0 ≤ rd keys i ∧ rd keys i < (c : Int)
        · rw [decide_eq_true h2, decide_eq_true (show 0 ≤ rd keys i ∧ rd keys i < ((c + 1 : Nat) : Int) by omega)]; rfl
        · rw [decide_eq_false h2]; rfl
      rw [e, e2]
      exact List.filter_append_perm _ _
  have := gen k
  rwa [List.filter_eq_self.2 (fun i hi => by rw [decide_eq_true_iff]; exact hk i hi)] at this
/-- What stands at each key's places is what has it. -/
theorem passK_eq {order keys l : List Int} : ∀ k : Nat, (passK order keys k).length ≤ l.length → (∀ c : Nat, c < k → ∀ t : Nat, t < (ofKey order keys c).length → rd l ((passK order keys c).length + t) = rd (ofKey order keys c) t) → l.take (passK order keys k).length = passK order keys k
  | 0, _, _ => rfl
  | k + 1, hl, h => by
    have ih := passK_eq (order := order) (keys := keys) (l := l) k (by rw [passK, List.length_append] at hl; omega) fun c hc => h c (by omega)
    rw [passK, List.length_append] at hl ⊢
    rw [List.take_add, ih]
    congr 1
    refine list_ext_rd (by rw [List.length_take, List.length_drop]; omega) fun j h1 h2 => ?_
    rw [List.length_take, List.length_drop] at h2
    have := h k (by omega) j.toNat (by omega)
    rw [show ((j.toNat : Nat) : Int) = j by omega] at this
    rw [← this]
    unfold rd
    rw [List.getD_eq_getElem?_getD, List.getD_eq_getElem?_getD, List.getElem?_take, if_pos (by omega), List.getElem?_drop]
    congr 2
    omega
/-- The loop that lays them out: what it keeps. -/
structure PassI (order keys at_ l : List Int) (k : Int) (m : Int) : Prop where
  len : l.length = order.length
  alen : at_.length = k.toNat
  at_ : ∀ c : Int, 0 ≤ c → c < k → rd at_ c = (passK order keys c.toNat).length + (ofKey (order.take m.toNat) keys c).length
  row : ∀ c : Int, 0 ≤ c → c < k → ∀ t : Int, 0 ≤ t → t < (ofKey (order.take m.toNat) keys c).length → rd l ((passK order keys c.toNat).length + t) = rd (ofKey (order.take m.toNat) keys c) t
theorem passI_zero {order keys : List Int} {k : Int} : PassI order keys (startsV (cntV (order.map (rd keys)) k)) (List.replicate order.length 0) k 0 := by
  refine ⟨by simp, by rw [startsV_len, cntV_len], fun c h0 h => ?_, fun c _ _ t _ ht => ?_⟩
  · rw [rd_startsV h0 (by rw [cntV_len]; omega)]
    have := passK_len order keys (k := k) c.toNat (by omega)
    rw [show ((c.toNat : Nat) : Int) = c by omega] at this
    rw [this]
    simp [ofKey]
  · simp [ofKey] at ht
    omega
theorem passK_top {order keys : List Int} {k : Int} (hk : ∀ i ∈ order, 0 ≤ rd keys i ∧ rd keys i < k) : (passK order keys k.toNat).length = order.length := (passK_perm (k := k.toNat) fun i hi => by have := hk i hi; omega).length_eq
theorem PassI.lt {order keys at_ l : List Int} {k m : Int} (h : PassI order keys at_ l k m) (hk : ∀ i ∈ order, 0 ≤ rd keys i ∧ rd keys i < k) (h0 : 0 ≤ m) (hm : m < order.length) : 0 ≤ rd at_ (rd keys (rd order m)) ∧ rd at_ (rd keys (rd order m)) < l.length := by
  have hi := hk _ (rd_mem h0 hm)
  rw [h.at_ _ hi.1 hi.2, h.len]
  have e : order.take (m + 1).toNat = order.take m.toNat ++ [rd order m] := take_rd h0 hm
  have h1 := ofKey_take_le order keys (rd keys (rd order m)) (m + 1).toNat
  rw [e, ofKey_snoc_same rfl, List.length_append, List.length_singleton] at h1
  have h2 := passK_mono order keys (c := (rd keys (rd order m)).toNat) (d := k.toNat) (by omega)
  rw [passK_top hk, show (((rd keys (rd order m)).toNat : Nat) : Int) = rd keys (rd order m) by omega] at h2
  omega
theorem PassI.step {order keys at_ l : List Int} {k m : Int} (h : PassI order keys at_ l k m) (hk : ∀ i ∈ order, 0 ≤ rd keys i ∧ rd keys i < k) (h0 : 0 ≤ m) (hm : m < order.length) : PassI order keys (upd at_ (rd keys (rd order m)) (rd at_ (rd keys (rd order m)) + 1)) (upd l (rd at_ (rd keys (rd order m))) (rd order m)) k (m + 1) := by
  have hi := hk _ (rd_mem h0 hm)
  have hlt := h.lt hk h0 hm
  have e : order.take (m + 1).toNat = order.take m.toNat ++ [rd order m] := take_rd h0 hm
  have hat := h.at_ _ hi.1 hi.2
  refine ⟨by rw [upd_length]; exact h.len, by rw [upd_length]; exact h.alen, fun c c0 c1 => ?_, fun c c0 c1 t t0 t1 => ?_⟩
  · rw [rd_upd hi.1 c0 (by rw [h.alen]; omega), e]
    by_cases hc : c = rd keys (rd order m)
    · rw [if_pos hc, hat, ofKey_snoc_same hc.symm, List.length_append, hc]
      simp only [List.length_singleton]
      omega
    · rw [if_neg hc, h.at_ c c0 c1, ofKey_snoc_other fun h => hc h.symm]
  · rw [e] at t1 ⊢
    have hfull : ∀ c : Int, (ofKey (order.take m.toNat ++ [rd order m]) keys c).length ≤ (ofKey order keys c).length := fun c => by rw [← e]; exact ofKey_take_le _ _ _ _
    rw [rd_upd hlt.1 (by omega) hlt.2, hat]
    by_cases hc : c = rd keys (rd order m)
    · subst hc
      rw [ofKey_snoc_same rfl] at t1 ⊢
      rw [List.length_append, List.length_singleton] at t1
      by_cases ht : t = (ofKey (order.take m.toNat) keys (rd keys (rd order m))).length
      · rw [if_pos (by omega), rd_append_one ht]
      · rw [if_neg (by omega), rd_append_left t0 (by omega)]
        exact h.row _ c0 c1 t t0 (by omega)
    · rw [ofKey_snoc_other fun h => hc h.symm] at t1 ⊢
      rw [if_neg, h.row c c0 c1 t t0 t1]
      intro heq
      have f1 := hfull c
      rw [ofKey_snoc_other fun h => hc h.symm] at f1
      have f2 := hfull (rd keys (rd order m))
      rw [ofKey_snoc_same rfl, List.length_append, List.length_singleton] at f2
      rcases Int.lt_or_lt_of_ne hc with a | a
      · have := passK_mono order keys (c := c.toNat) (d := (rd keys (rd order m)).toNat) (by omega)
        rw [show ((c.toNat : Nat) : Int) = c by omega] at this
        omega
      · have := passK_mono order keys (c := (rd keys (rd order m)).toNat) (d := c.toNat) (by omega)
        rw [show (((rd keys (rd order m)).toNat : Nat) : Int) = rd keys (rd order m) by omega] at this
        omega
theorem PassI.done {order keys at_ l : List Int} {k m : Int} (h : PassI order keys at_ l k m) (hk : ∀ i ∈ order, 0 ≤ rd keys i ∧ rd keys i < k) (hm : m = order.length) : l = passK order keys k.toNat := by
  have ht : order.take m.toNat = order := List.take_of_length_le (by omega)
  have := passK_eq (order := order) (keys := keys) (l := l) k.toNat (by rw [passK_top hk, h.len]; exact Nat.le_refl _) fun c hc t htc => by
    have hr := h.row c (by omega) (by omega) t (by omega)
    rw [ht] at hr
    exact hr (by omega)
  rw [passK_top hk, ← h.len, List.take_length] at this
  exact this
/-- Two places of an order, sorted by their keys: by the key; then asx they stood. -/
theorem passK_sorted {order keys : List Int} {r : Int → Int → Prop} (ho : order.Pairwise r) : ∀ k : Nat, (passK order keys k).Pairwise fun x y => rd keys x < rd keys y ∨ rd keys x = rd keys y ∧ r x y
  | 0 => .nil
  | k + 1 => by
    rw [passK]
    refine List.pairwise_append.2 ⟨passK_sorted ho k, ?_, fun x hx y hy => ?_⟩
    · refine ((ho.sublist (List.filter_sublist ..)).imp_of_mem fun {x y} hx hy h => ?_ : (ofKey order keys k).Pairwise _)
      have h1 := (List.mem_filter.1 hx).2
      have h2 := (List.mem_filter.1 hy).2
      rw [decide_eq_true_iff] at h1 h2
      exact .inr ⟨by omega, h⟩
    · have h2 := (List.mem_filter.1 hy).2
      rw [decide_eq_true_iff] at h2
      have : ∀ c : Nat, ∀ z ∈ passK order keys c, rd keys z < c := by
        intro c
        induction c with
        | zero => intro z hz; cases hz
        | succ c ih =>
          intro z hz
          rw [passK] at hz
          rcases List.mem_append.1 hz with hz | hz
          · have := ih z hz; omega
          · have h3 := (List.mem_filter.1 hz).2
            rw [decide_eq_true_iff] at h3
            omega
      have := this k x hx
      exact .inl (by omega)
theorem cntV_bound {ks : List Int} {k x : Int} : 0 ≤ rd (cntV ks k) x ∧ rd (cntV ks k) x ≤ ks.length := by
  by_cases h : x.toNat < k.toNat
  · have e : rd (cntV ks k) x = ((ks.filter fun y => decide (y = (x.toNat : Int))).length : Int) := by
      unfold rd cntV
      rw [List.getD_eq_getElem?_getD, List.getElem?_map, List.getElem?_range h]
      rfl
    have := List.length_filter_le (fun y => decide (y = (x.toNat : Int))) ks
    omega
  · have e : rd (cntV ks k) x = 0 := by
      unfold rd
      rw [List.getD_eq_getElem?_getD, List.getElem?_eq_none (by rw [cntV_len]; omega)]
      rfl
    omega
theorem sum_nonneg : ∀ {L : List Int}, (∀ x ∈ L, 0 ≤ x) → 0 ≤ L.sum
  | [], _ => by simp
  | x :: L, h => by
    have a := h x (by simp)
    have b := sum_nonneg (L := L) fun y hy => h y (List.mem_cons_of_mem _ hy)
    rw [List.sum_cons]
    omega
theorem ps_bound {L : List Int} (h : ∀ x ∈ L, 0 ≤ x) (k : Int) : 0 ≤ ps L k ∧ ps L k ≤ L.sum := by
  have e : L.sum = (L.take k.toNat).sum + (L.drop k.toNat).sum := by rw [← List.sum_append, List.take_append_drop]
  have a := sum_nonneg (L := L.take k.toNat) fun y hy => h y (List.mem_of_mem_take hy)
  have b := sum_nonneg (L := L.drop k.toNat) fun y hy => h y (List.mem_of_mem_drop hy)
  unfold ps
  omega
theorem cntV_nonneg (ks : List Int) (k : Int) : ∀ x ∈ cntV ks k, 0 ≤ x := by
  intro x hx
  obtain ⟨c, _, rfl⟩ := List.mem_map.1 hx
  omega
theorem cntV_sum {order keys : List Int} {k : Int} (h0 : 0 ≤ k) (hk : ∀ i ∈ order, 0 ≤ rd keys i ∧ rd keys i < k) : (cntV (order.map (rd keys)) k).sum = order.length := by
  have := passK_len order keys (k := k) k.toNat (by omega)
  rw [ps_all (by rw [cntV_len]; omega), passK_top hk] at this
  exact this
/-- A row that is filled from the left. -/
theorem fill_step {V : List Int} {f : Int → Int} {i v : Int} (h0 : 0 ≤ i) (hi : i < V.length) (h : ∀ j : Int, 0 ≤ j → j < i → rd V j = f j) (hv : v = f i) : ∀ j : Int, 0 ≤ j → j < i + 1 → rd (upd V i v) j = f j := by
  intro j j0 j1
  rw [rd_upd h0 j0 hi]
  by_cases e : j = i
  · rw [if_pos e, e, hv]
  · rw [if_neg e]
    exact h j j0 (by omega)
end Go.Pure

/-! ## Q37 -/
namespace Go.Pure
open Go Go.Eng
def Bd (u : List Int) (n k : Nat) : Prop := k < n ∧ ∀ e, e < k → lt u e = lt u (n - k + e)
def MB (u : List Int) (n : Nat) (k : Int) : Prop := 0 ≤ k ∧ Bd u n k.toNat ∧ ∀ q : Nat, Bd u n q → (q : Int) ≤ k
def KI (u : List Int) (i : Nat) (n : Int) : Prop := 0 ≤ n ∧ Bd u i n.toNat ∧ ∀ q : Nat, Bd u i q → n < q → lt u q ≠ lt u i
variable {u : List Int}
theorem MB.one : MB u 1 0 := ⟨by omega, ⟨by omega, fun e he => by simp at he⟩, fun q h => by have := h.1; omega⟩
theorem MB.bd {n : Nat} {k : Int} (h : MB u n k) : 0 ≤ k ∧ k < n := ⟨h.1, by have := h.2.1.1; have := h.1; omega⟩
theorem KI.bd {n : Nat} {k : Int} (h : KI u n k) : 0 ≤ k ∧ k < n := ⟨h.1, by have := h.2.1.1; have := h.1; omega⟩
theorem KI.init {i : Nat} {n : Int} (h : MB u i n) : KI u i n := ⟨h.1, h.2.1, fun q hq hn => by have := h.2.2 q hq; omega⟩
theorem KI.step {i : Nat} {n m : Int} (h : KI u i n) (hne : lt u n.toNat ≠ lt u i) (hb : MB u n.toNat m) : KI u i m := by
  obtain ⟨h0, ⟨h1, h2⟩, h3⟩ := h
  obtain ⟨g0, ⟨g1, g2⟩, g3⟩ := hb
  refine ⟨g0, ⟨by omega, fun e he => ?_⟩, fun q hq hmq => ?_⟩
  · rw [g2 e he, h2 (n.toNat - m.toNat + e) (by omega)]
    congr 1
    omega
  · rcases Nat.lt_trichotomy q n.toNat with a | a | a
    · have : Bd u n.toNat q := ⟨a, fun e he => by
        rw [hq.2 e he, h2 (n.toNat - q + e) (by omega)]
        congr 1
        omega⟩
      have := g3 q this
      omega
    · subst a; exact hne
    · exact h3 q hq (by omega)
theorem KI.hit {i : Nat} {n : Int} (h : KI u i n) (he : lt u n.toNat = lt u i) : MB u (i + 1) (n + 1) := by
  obtain ⟨h0, ⟨h1, h2⟩, h3⟩ := h
  refine ⟨by omega, ⟨by omega, fun e hE => ?_⟩, fun q hq => ?_⟩
  · rcases Nat.lt_or_ge e n.toNat with a | a
    · rw [h2 e a]; congr 1; omega
    · obtain rfl : e = n.toNat := by omega
      rw [he]; congr 1; omega
  · rcases q with _ | q
    · omega
    · have hb : Bd u i q := ⟨by have := hq.1; omega, fun e hE => by rw [hq.2 e (by omega)]; congr 1; omega⟩
      have hl := hq.2 q (by omega)
      have := hq.1
      rw [show i + 1 - (q + 1) + q = i by omega] at hl
      rcases Int.lt_or_le n q with a | a
      · exact absurd hl (h3 q hb a)
      · omega
theorem KI.miss {i : Nat} {n : Int} (h : KI u i n) (hn : n ≤ 0) (he : lt u n.toNat ≠ lt u i) : MB u (i + 1) n := by
  obtain ⟨h0, ⟨h1, h2⟩, h3⟩ := h
  obtain rfl : n = 0 := by omega
  refine ⟨by omega, ⟨by omega, fun e hE => by simp at hE⟩, fun q hq => ?_⟩
  rcases q with _ | q
  · omega
  · have hb : Bd u i q := ⟨by have := hq.1; omega, fun e hE => by rw [hq.2 e (by omega)]; congr 1; omega⟩
    have hl := hq.2 q (by omega)
    have := hq.1
    rw [show i + 1 - (q + 1) + q = i by omega] at hl
    rcases Nat.eq_zero_or_pos q with a | a
    · subst a; exact absurd hl he
    · exact absurd hl (h3 q hb (by omega))
theorem bd_perL {n k : Nat} (hn : n = u.length) (hk : k < n) : Bd u n k ↔ PerL u (n - k) := by
  subst hn
  rw [perL_iff]
  constructor
  · intro h i hi
    have := h.2 i (by omega)
    unfold lt at this
    rw [this]; congr 1; omega
  · intro h
    refine ⟨hk, fun e he => ?_⟩
    have := h e (by omega)
    unfold lt
    rw [← this]; congr 1; omega
theorem MB.least {k : Int} (hn : 0 < u.length) (h : MB u u.length k) : (u.length : Int) - k = lp u := by
  obtain ⟨r, e, r1, r2, hp, hmin⟩ := lp_spec hn
  obtain ⟨k0, hb, hmax⟩ := h
  have hb1 := hb.1
  have h1 := hmax (u.length - r) ((bd_perL rfl (by omega)).2 (by rw [show u.length - (u.length - r) = r by omega]; exact hp))
  have h2 := (bd_perL rfl hb.1).1 hb
  rcases Nat.lt_or_ge (u.length - k.toNat) r with a | a
  · exact absurd h2 (hmin _ (by omega) a)
  · omega
theorem cmpL_anti : ∀ a b : List Int, cmpL b a = -cmpL a b
  | [], [] => rfl
  | [], _ :: _ => rfl
  | _ :: _, [] => rfl
  | x :: a, y :: b => by
    rw [cmpL, cmpL, cmpL_anti a b]
    split <;> split <;> omega
theorem cmpL_eq : ∀ a b : List Int, cmpL a b = 0 ↔ a = b
  | [], [] => by simp [cmpL]
  | [], _ :: _ => by simp [cmpL]
  | _ :: _, [] => by simp [cmpL]
  | x :: a, y :: b => by
    have ih := cmpL_eq a b
    rw [cmpL]
    split
    · simp; omega
    · split
      · simp; omega
      · rw [ih]; simp; omega
theorem cmpL_le : ∀ a b c : List Int, cmpL a b ≤ 0 → cmpL b c ≤ 0 → cmpL a c ≤ 0
  | [], [], _, _, h => h
  | [], _ :: _, [], _, h => by simp [cmpL] at h
  | [], _ :: _, _ :: _, _, _ => by simp [cmpL]
  | _ :: _, [], _, h, _ => by simp [cmpL] at h
  | _ :: _, _ :: _, [], _, h => by simp [cmpL] at h
  | x :: a, y :: b, z :: c, h1, h2 => by
    have ih := cmpL_le a b c
    rw [cmpL] at h1 h2 ⊢
    split at h1
    · split at h2
      · rw [if_pos (by omega)]; omega
      · split at h2
        · omega
        · rw [if_pos (by omega)]; omega
    · split at h1
      · omega
      · split at h2
        · rw [if_pos (by omega)]; omega
        · split at h2
          · omega
          · rw [if_neg (by omega), if_neg (by omega)]; exact ih h1 h2
abbrev RT := List Int × Int
def kcmp (a b : RT) : Int := if cmpL a.1 b.1 ≠ 0 then cmpL a.1 b.1 else cmpI a.2 b.2
theorem kcmp_anti (a b : RT) : kcmp b a = -kcmp a b := by
  unfold kcmp
  rw [cmpL_anti a.1 b.1, cmpI_anti a.2 b.2]
  split <;> split <;> omega
theorem kcmp_eq (a b : RT) : kcmp a b = 0 ↔ a = b := by
  unfold kcmp
  have h1 := cmpL_eq a.1 b.1
  have h2 := @cmpI_zero a.2 b.2
  rw [Prod.ext_iff]
  split
  · rename_i c
    constructor
    · intro h; exact absurd h c
    · intro h; exact absurd (h1.2 h.1) c
  · rename_i c
    rw [h2]
    constructor
    · intro h; exact ⟨h1.1 (by omega), h⟩
    · intro h; exact h.2
theorem cmpI_le {a b : Int} : cmpI a b ≤ 0 ↔ a ≤ b := by unfold cmpI; split <;> (try split) <;> omega
theorem kcmp_le_iff {a b : RT} : kcmp a b ≤ 0 ↔ cmpL a.1 b.1 < 0 ∨ a.1 = b.1 ∧ a.2 ≤ b.2 := by
  unfold kcmp
  have h1 := cmpL_eq a.1 b.1
  have h2 := @cmpI_le a.2 b.2
  split
  · rename_i c
    constructor
    · intro h; left; omega
    · rintro (h | h)
      · omega
      · exact absurd (h1.2 h.1) c
  · rename_i c
    rw [h2]
    constructor
    · intro h; exact .inr ⟨h1.1 (by omega), h⟩
    · rintro (h | h)
      · omega
      · exact h.2
theorem kcmp_le (a b c : RT) (h1 : kcmp a b ≤ 0) (h2 : kcmp b c ≤ 0) : kcmp a c ≤ 0 := by
  rw [kcmp_le_iff] at h1 h2 ⊢
  have h := cmpL_le a.1 b.1 c.1
  have e1 := cmpL_eq a.1 b.1
  have e2 := cmpL_eq b.1 c.1
  have e3 := cmpL_eq a.1 c.1
  rcases h1 with h1 | h1
  · rcases h2 with h2 | h2
    · have a1 := h (by omega) (by omega)
      rcases Int.lt_or_eq_of_le a1 with g | g
      · exact .inl g
      · have e := e3.1 g
        rw [e, cmpL_anti b.1 c.1] at h1
        omega
    · exact .inl (by rw [← h2.1]; exact h1)
  · rcases h2 with h2 | h2
    · exact .inl (by rw [h1.1]; exact h2)
    · exact .inr ⟨h1.1.trans h2.1, by omega⟩
theorem kcmp_sorted_one {l m : List RT} (hp : l.Perm m) (hl : l.Pairwise fun a b => kcmp a b ≤ 0) (hm : m.Pairwise fun a b => kcmp a b ≤ 0) : l = m :=
  hp.eq_of_pairwise (fun a b _ _ h1 h2 => (kcmp_eq a b).1 (by rw [kcmp_anti a b] at h2; omega)) hl hm
def lw (u : List Int) : List Int := turnS u (lrot u)
def rootW (c : List Int) : List Int := c.take (rl c).toNat
def timesW (c : List Int) : Int := (c.length : Int) / rl c
def ringOf (u : List Int) : RT := (rootW (lw u), timesW (lw u))
def ringsOf (ws : List (List Int)) : List RT := (ws.filter fun w => decide (0 < w.length)).map ringOf
def ringS (ws : List (List Int)) : List RT := (ringsOf ws).mergeSort fun a b => decide (kcmp a b ≤ 0)
def unring (r : RT) : List Int := rep r.1 r.2
def canon (ws : List (List Int)) : List (List Int) := (ringS ws).map unring
theorem ringS_perm (ws : List (List Int)) : (ringS ws).Perm (ringsOf ws) := List.mergeSort_perm _ _
theorem ringS_sorted (ws : List (List Int)) : (ringS ws).Pairwise fun a b => kcmp a b ≤ 0 := by
  have := List.pairwise_mergeSort (le := fun a b : RT => decide (kcmp a b ≤ 0)) (fun a b c h1 h2 => decide_eq_true (kcmp_le a b c (of_decide_eq_true h1) (of_decide_eq_true h2))) (fun a b => by
    rw [Bool.or_eq_true, decide_eq_true_eq, decide_eq_true_eq, kcmp_anti a b]; omega) (ringsOf ws)
  exact this.imp fun h => of_decide_eq_true h
theorem ringS_one {ws : List (List Int)} {l : List RT} (hp : l.Perm (ringsOf ws)) (hs : l.Pairwise fun a b => kcmp a b ≤ 0) : l = ringS ws := kcmp_sorted_one (hp.trans (ringS_perm ws).symm) hs (ringS_sorted ws)
theorem ringS_congr {ws xs : List (List Int)} (hp : (ringsOf ws).Perm (ringsOf xs)) : ringS ws = ringS xs := ringS_one ((ringS_perm ws).trans hp) (ringS_sorted ws)
theorem lw_len (u : List Int) : (lw u).length = u.length := turnS_len u _
theorem lw_nil : lw [] = [] := rfl
theorem rot_turn {r : Nat} (hr : r ≤ u.length) (hn : 0 < u.length) : om (turnS u r) = rot u r := by
  have h1 := om_per (turnS u r)
  rw [turnS_len] at h1
  funext d
  rw [← h1.mod d, ← (rot_per (s := u) r).mod d]
  have hd := Nat.mod_lt d hn
  have := turnS_at hr hd
  rw [om_lt (by rw [turnS_len]; exact hd)]
  rw [show ((r : Nat) : Int) = (r : Int) from rfl] at *
  exact this
theorem rot_rot {r q : Nat} (hr : r ≤ u.length) (hn : 0 < u.length) : rot (turnS u r) q = rot u (r + q) := by
  funext d
  show om (turnS u r) (q + d) = om u (r + q + d)
  rw [rot_turn hr hn]
  show om u (r + (q + d)) = _
  rw [Nat.add_assoc]
/-- The least rotation's own least rotation is itself. -/
theorem lrot_lw (u : List Int) : lrot (lw u) = 0 := by
  rcases Nat.eq_zero_or_pos u.length with z | z
  · rw [List.eq_nil_of_length_eq_zero z]; rfl
  · have hl := lw_len u
    have fl := lrot_FL z
    have hb : lrotK u u.length ≤ u.length := by have := fl.lt; omega
    have e : lw u = turnS u (lrotK u u.length : Nat) := rfl
    have f2 : FL (lw u) 0 := ⟨by omega, fun r hr => by
      rw [e, rot_rot hb z, rot_rot hb z]
      exact fl.any _, fun r hr => by omega⟩
    have f3 := lrot_FL (s := lw u) (by omega)
    have := f3.one f2
    unfold lrot
    omega
theorem turnS_zero (u : List Int) : turnS u 0 = u := by unfold turnS; simp
/-- Words are one if they are asx long and one without end. -/
theorem om_ext {a b : List Int} (hl : a.length = b.length) (h : om a = om b) : a = b := by
  refine list_ext_rd hl fun j h0 h1 => ?_
  have := congrFun h j.toNat
  rw [om_lt (by omega), om_lt (by omega)] at this
  exact this
theorem rot_lrot {r : Nat} (hr : r ≤ u.length) (hn : 0 < u.length) : lw (turnS u r) = lw u := by
  have hl := turnS_len u r
  have fl := lrot_FL hn
  have f2 := lrot_FL (s := turnS u r) (by omega)
  have hb : lrotK u u.length ≤ u.length := by have := fl.lt; omega
  have hb2 : lrotK (turnS u r) (turnS u r).length ≤ (turnS u r).length := by have := f2.lt; omega
  refine om_ext (by rw [lw_len, lw_len, hl]) ?_
  rw [show lw (turnS u r) = turnS (turnS u r) (lrotK (turnS u r) (turnS u r).length : Nat) from rfl, show lw u = turnS u (lrotK u u.length : Nat) from rfl, rot_turn hb hn, rot_turn hb2 (by omega), rot_rot hr hn]
  rcases lt_tri (rot u (r + lrotK (turnS u r) (turnS u r).length)) (rot u (lrotK u u.length)) with a | a | a
  · exact absurd a (fl.any _)
  · exact funext a
  · exfalso
    have h2 := f2.any (lrotK u u.length + (u.length - r))
    rw [rot_rot hr hn, rot_rot hr hn] at h2
    have e : rot u (r + (lrotK u u.length + (u.length - r))) = rot u (lrotK u u.length) := by
      rw [← rot_mod (r + _), ← rot_mod (lrotK u u.length), show r + (lrotK u u.length + (u.length - r)) = lrotK u u.length + u.length by omega, Nat.add_mod_right]
    rw [e] at h2
    exact h2 a
theorem ringOf_turn {r : Nat} (hr : r ≤ u.length) (hn : 0 < u.length) : ringOf (turnS u r) = ringOf u := by unfold ringOf; rw [rot_lrot hr hn]
theorem rl_dvd {c : List Int} (h : 0 < c.length) : (c.length : Int) % rl c = 0 := by
  obtain ⟨r, e, r1, r2, _, _⟩ := lp_spec h
  unfold rl
  split
  · exact Int.emod_self
  · omega
theorem root_len {c : List Int} (h : 0 < c.length) : ((rootW c).length : Int) = rl c := by
  have := rl_range h
  unfold rootW
  rw [List.length_take]
  omega
theorem times_mul {c : List Int} (h : 0 < c.length) : timesW c * rl c = c.length := Int.ediv_mul_cancel (Int.dvd_of_emod_eq_zero (rl_dvd h))
theorem times_pos {c : List Int} (h : 0 < c.length) : 0 < timesW c := by
  have h1 := times_mul h
  have h2 := rl_range h
  rcases Int.lt_or_le 0 (timesW c) with a | a
  · exact a
  · have := Int.mul_nonneg_of_nonpos_of_nonpos a (show -(rl c) ≤ 0 by omega)
    rw [Int.mul_neg] at this
    omega
theorem root_om {c : List Int} (h : 0 < c.length) : om (rootW c) = om c := by
  obtain ⟨r, e, r1, r2, ho, _⟩ := rl_spec h
  funext i
  rw [ho i]
  unfold rootW
  rw [e]
  rfl
theorem unring_root {c : List Int} (h : 0 < c.length) : rep (rootW c) (timesW c) = c := by
  have hr := root_len h
  have hp := rl_range h
  have ht := times_pos h
  have hl : (rep (rootW c) (timesW c)).length = c.length := by
    rw [rep_length]
    have h1 := times_mul h
    have : ((timesW c).toNat * (rootW c).length : Int) = c.length := by
      rw [Int.toNat_of_nonneg (by omega), hr, h1]
    exact_mod_cast this
  refine om_ext hl ?_
  rw [show timesW c = ((timesW c).toNat : Int) by omega]
  funext i
  rw [om_rep (by omega) (by omega), root_om h]
theorem unring_of {w : List Int} (h : 0 < w.length) : unring (ringOf w) = lw w := unring_root (by rw [lw_len]; exact h)
theorem mem_rings {ws : List (List Int)} {r : RT} (h : r ∈ ringsOf ws) : ∃ w ∈ ws, 0 < w.length ∧ r = ringOf w := by
  unfold ringsOf at h
  obtain ⟨w, hw, e⟩ := List.mem_map.1 h
  obtain ⟨h1, h2⟩ := List.mem_filter.1 hw
  exact ⟨w, h1, of_decide_eq_true h2, e.symm⟩
theorem mem_ringS {ws : List (List Int)} {r : RT} (h : r ∈ ringS ws) : ∃ w ∈ ws, 0 < w.length ∧ r = ringOf w := mem_rings ((ringS_perm ws).subset h)
theorem mem_canon {ws : List (List Int)} {c : List Int} (h : c ∈ canon ws) : ∃ w ∈ ws, 0 < w.length ∧ c = lw w := by
  obtain ⟨r, hr, rfl⟩ := List.mem_map.1 h
  obtain ⟨w, h1, h2, rfl⟩ := mem_ringS hr
  exact ⟨w, h1, h2, unring_of h2⟩
theorem ringsOf_append (a b : List (List Int)) : ringsOf (a ++ b) = ringsOf a ++ ringsOf b := by unfold ringsOf; rw [List.filter_append, List.map_append]
theorem canon_len (ws : List (List Int)) : (canon ws).length = (ringsOf ws).length := by
  unfold canon
  rw [List.length_map, (ringS_perm ws).length_eq]
end Go.Pure

/-! ## E27 -/
namespace Go.Eng
open Go Go.RowKit Go.Pure
section
variable {P : Program} {n : Nd} {B : Nat} {w0 : World} {L : Env} {R : List Row} {ty : TypeId}
theorem rd_isNone {w : World} {A : Option Addr} {m c : Nat} {k : IntKind} {u : List Int} (h : Rd w A m c 1 (ints k u)) (hA : A.isNone = true) : u = [] := by
  cases u with
  | nil => rfl
  | cons y l =>
    obtain ⟨b, g, _⟩ := h.at_ 0 (.int k y) (by simp [ints])
    rw [g] at hA
    cases hA
theorem SlR.weak {k : IntKind} {Rs Rs' : List Row} {vals : List Value} {ls : List (List Int)} (h : SlR k Rs vals ls) (hr : ∀ B w0 w, Hp B w0 w Rs' → Hp B w0 w Rs) : SlR k Rs' vals ls :=
  ⟨h.1, fun j hj => by
    obtain ⟨A, c, h1, h2⟩ := h.2 j hj
    exact ⟨A, c, h1, fun B w0 w hw => h2 B w0 w (hr B w0 w hw)⟩⟩
theorem SlR.right {k : IntKind} {Rs : List Row} {vals : List Value} {ls : List (List Int)} (h : SlR k Rs vals ls) (X : List Row) : SlR k (X ++ Rs) vals ls := h.weak fun _ _ _ hw => hw.right
theorem SlR.left {k : IntKind} {Rs : List Row} {vals : List Value} {ls : List (List Int)} (h : SlR k Rs vals ls) (T : List Row) : SlR k (Rs ++ T) vals ls := h.weak fun _ _ _ hw => hw.left
theorem getD_app {l m : List (List Int)} {j : Nat} (h : j < l.length) : (l ++ m).getD j [] = l.getD j [] := by
  rw [List.getD_eq_getElem?_getD, List.getD_eq_getElem?_getD, List.getElem?_append_left h]
theorem SlR.app {k : IntKind} {Rs : List Row} {v1 v2 : List Value} {l1 l2 : List (List Int)} (h : SlR k Rs v1 l1) (g : SlR k Rs v2 l2) : SlR k Rs (v1 ++ v2) (l1 ++ l2) := by
  refine ⟨by simp [h.1, g.1], fun j hj => ?_⟩
  rcases Nat.lt_or_ge j l1.length with q | q
  · obtain ⟨A, c, h1, h2⟩ := h.2 j q
    rw [getD_app q, List.getElem?_append_left (by rw [h.1]; exact q)]
    exact ⟨A, c, h1, h2⟩
  · rw [List.length_append] at hj
    obtain ⟨A, c, h1, h2⟩ := g.2 (j - l1.length) (by omega)
    have e : (l1 ++ l2).getD j [] = l2.getD (j - l1.length) [] := by
      rw [List.getD_eq_getElem?_getD, List.getD_eq_getElem?_getD, List.getElem?_append_right q]
    rw [e, List.getElem?_append_right (by rw [h.1]; exact q), h.1]
    exact ⟨A, c, h1, h2⟩
theorem SlR.take {k : IntKind} {Rs : List Row} {vals : List Value} {ls : List (List Int)} (h : SlR k Rs vals ls) (i : Nat) : SlR k Rs (vals.take i) (ls.take i) := by
  refine ⟨by simp [h.1], fun j hj => ?_⟩
  rw [List.length_take] at hj
  obtain ⟨A, c, h1, h2⟩ := h.2 j (by omega)
  have e : (ls.take i).getD j [] = ls.getD j [] := by
    rw [List.getD_eq_getElem?_getD, List.getD_eq_getElem?_getD, List.getElem?_take_of_lt (by omega)]
  rw [e, List.getElem?_take_of_lt (by omega)]
  exact ⟨A, c, h1, h2⟩
theorem SlR.drop {k : IntKind} {Rs : List Row} {vals : List Value} {ls : List (List Int)} (h : SlR k Rs vals ls) (i : Nat) : SlR k Rs (vals.drop i) (ls.drop i) := by
  refine ⟨by simp [h.1], fun j hj => ?_⟩
  rw [List.length_drop] at hj
  obtain ⟨A, c, h1, h2⟩ := h.2 (i + j) (by omega)
  have e : (ls.drop i).getD j [] = ls.getD (i + j) [] := by
    rw [List.getD_eq_getElem?_getD, List.getD_eq_getElem?_getD, List.getElem?_drop]
  rw [e, List.getElem?_drop]
  exact ⟨A, c, h1, h2⟩
theorem SlR.single {k : IntKind} {Rs : List Row} {A : Option Addr} {m c : Nat} {l : List Int} (hm : m = l.length) (h : ∀ B w0 w, Hp B w0 w Rs → Rd w A m c 1 (ints k l)) : SlR k Rs [.slice A m c] [l] := by
  subst hm
  refine ⟨rfl, fun j hj => ?_⟩
  simp only [List.length_singleton] at hj
  obtain rfl : j = 0 := by omega
  exact ⟨A, c, rfl, h⟩
/-- A slice more, of whatever rows. -/
theorem SlR.push {k : IntKind} {Rs : List Row} {vals : List Value} {ls : List (List Int)} {A : Option Addr} {m c : Nat} {l : List Int} (h : SlR k Rs vals ls) (hm : m = l.length) (hr : ∀ B w0 w, Hp B w0 w Rs → Rd w A m c 1 (ints k l)) : SlR k Rs (vals ++ [.slice A m c]) (ls ++ [l]) := h.app (SlR.single hm hr)
theorem SlR.one {k : IntKind} {Rs : List Row} {vals : List Value} {ls : List (List Int)} (h : SlR k Rs vals ls) : ∀ v ∈ vals, v.oneCell' = true := fun v hv => by
  obtain ⟨j, hj, e⟩ := List.mem_iff_getElem.1 hv
  obtain ⟨A, c, h1, _⟩ := h.2 j (by rw [← h.1]; exact hj)
  rw [List.getElem?_eq_getElem hj, e] at h1
  obtain rfl := Option.some.inj h1
  simp [Value.oneCell']
/-- As slices of a world. -/
def OkB (ls : List (List Int)) : Prop := ∀ l ∈ ls, ByteL l ∧ l.length ≤ 140737488355327
theorem SlR.slw {Rs : List Row} {vals : List Value} {ls : List (List Int)} (h : SlR .u8 Rs vals ls) (hb : OkB ls) {w : World} (hw : Hp B w0 w Rs) : SlW .u8 w vals ls :=
  ⟨h.1, fun j hj => by
    obtain ⟨A, c, h1, h2⟩ := h.2 j hj
    have hm : ls.getD j [] ∈ ls := by
      rw [List.getD_eq_getElem?_getD, List.getElem?_eq_getElem hj]
      exact List.getElem_mem hj
    exact ⟨A, c, h1, h2 _ _ _ hw, fun x hx => wf_byte ((hb _ hm).1 x hx), (hb _ hm).2⟩⟩
theorem SlW.okB {w : World} {vals : List Value} {ls : List (List Int)} (h : SlW .u8 w vals ls) : OkB ls := fun l hl => by
  obtain ⟨j, hj, e⟩ := List.mem_iff_getElem.1 hl
  obtain ⟨A, c, _, _, h3, h4⟩ := h.2 j hj
  have e2 : ls.getD j [] = l := by rw [List.getD_eq_getElem?_getD, List.getElem?_eq_getElem hj, e]; rfl
  rw [e2] at h3 h4
  exact ⟨byteL_wf h3, h4⟩
structure RC where
  A : Option Addr
  c : Nat
  root : List Int
  times : Int
def encR (r : RC) : List Value := [.slice r.A r.root.length r.c, .int .i64 r.times]
def RC.rt (r : RC) : RT := (r.root, r.times)
def rdG (l : List RC) (i : Int) : RC := l.getD i.toNat ⟨none, 0, [], 0⟩
def rgs (l : List RC) : List Value := l.flatMap encR
def RgR (Rs : List Row) (l : List RC) : Prop := ∀ r ∈ l, ByteL r.root ∧ ∀ (B : Nat) (w0 w : World), Hp B w0 w Rs → Rd w r.A r.root.length r.c 1 (ints .u8 r.root)
theorem RgR.nil (Rs : List Row) : RgR Rs [] := fun r h => by cases h
theorem RgR.snoc {Rs : List Row} {l : List RC} {e m : Nat} {A : Option Addr} {c : Nat} {u : List Int} {t : Int} {ro : Bool} (h : RgR Rs l) (hm : m = u.length) (hb : ByteL u) : RgR (⟨e, 1, A, m, c, ints .u8 u, ro⟩ :: Rs) (l ++ [⟨A, c, u, t⟩]) := fun r hr => by
  subst hm
  rcases List.mem_append.1 hr with hr | hr
  · exact ⟨(h r hr).1, fun B w0 w hw => (h r hr).2 B w0 w hw.tail⟩
  · obtain rfl := List.mem_singleton.1 hr
    exact ⟨hb, fun B w0 w hw => rdr (R := ⟨e, 1, A, u.length, c, ints .u8 u, ro⟩ :: Rs) 0 rfl w hw⟩
theorem RgR.perm {Rs : List Row} {l m : List RC} (h : RgR Rs l) (hp : m.Perm l) : RgR Rs m := fun r hr => h r (hp.subset hr)
theorem rgs_len (l : List RC) : (rgs l).length = l.length * 2 := flat_len (enc := encR) (fun _ => rfl) l
theorem rgs_app (l m : List RC) : rgs (l ++ m) = rgs l ++ rgs m := List.flatMap_append
theorem rgs_one (l : List RC) : ∀ v ∈ rgs l, v.oneCell' = true := fun v hv => by
  obtain ⟨r, _, h⟩ := List.mem_flatMap.1 hv
  simp only [encR, List.mem_cons, List.not_mem_nil, or_false] at h
  rcases h with rfl | rfl <;> rfl
theorem encR_one (x : RC) : ∀ v ∈ encR x, v.oneCell' = true := fun v hv => by
  simp only [encR, List.mem_cons, List.not_mem_nil, or_false] at hv
  rcases hv with rfl | rfl <;> rfl
theorem rdG_mem {l : List RC} {i : Int} (h0 : 0 ≤ i) (h1 : i < l.length) : rdG l i ∈ l := by
  unfold rdG
  rw [List.getD_eq_getElem?_getD, List.getElem?_eq_getElem (by omega)]
  exact List.getElem_mem _
theorem rgs_at {l : List RC} {i : Int} (h0 : 0 ≤ i) (h1 : i < l.length) : ((rgs l).drop (i.toNat * 2)).take 2 = encR (rdG l i) := by
  have e : l = l.take i.toNat ++ rdG l i :: l.drop (i.toNat + 1) := by
    conv => lhs; rw [← List.take_append_drop i.toNat l]
    congr 1
    rw [List.drop_eq_getElem_cons (by omega)]
    congr 1
    unfold rdG
    rw [List.getD_eq_getElem?_getD, List.getElem?_eq_getElem (by omega)]
    rfl
  have hl : (rgs (l.take i.toNat)).length = i.toNat * 2 := by rw [rgs_len, List.length_take, Nat.min_eq_left (by omega)]
  have e2 : rgs l = rgs (l.take i.toNat) ++ (encR (rdG l i) ++ rgs (l.drop (i.toNat + 1))) := by
    conv => lhs; rw [e]
    rw [rgs_app]
    rfl
  rw [e2, List.drop_left' hl]
  rfl
theorem y_ldR {x : Operand} {t : TypeId} {d : TypeDesc} {A : Option Addr} {m c : Nat} {l : List RC} {i : Int} (hu : P.underlying t = some d) (hd : aggB d = true) (hst : (P.info? t).map (·.size) = some 2) (hx : ev L x = some (.pointer (pat A (i.toNat * 2)))) (hr : RdC B w0 R A m c 2 (rgs l)) (h0 : 0 ≤ i) (h1 : i < l.length) :
    Yl P n B w0 (.load t x) ty L R (.agg #[.slice (rdG l i).A (rdG l i).root.length (rdG l i).c, .int .i64 (rdG l i).times]) := by
  have := y_ldA (P := P) (n := n) (B := B) (w0 := w0) (R := R) (ty := ty) hu hd hst hx rfl hr (by rw [rgs_len]; omega) (by omega)
  rwa [rgs_at h0 h1] at this
theorem a_appendR {s x : Operand} {t e : TypeId} {z : Value} {bytes m p c c2 : Nat} {A A2 : Option Addr} {l news : List RC} (i : Nat) (hi : R[i]? = some ⟨e, 2, A, p, c, rgs l, false⟩) (ht : P.underlying t = some (.slice e)) (hinfo : (P.info? e).map (fun i => (i.zero, i.size, i.bytes)) = some (some z, 2, bytes)) (hz : z.cells.size = 2) (hb0 : Nat.blt 0 bytes = true)
    (hs : ev L s = some (.slice A p c)) (hx : ev L x = some (.slice A2 m c2)) (hrd : RdC B w0 R A2 m c2 2 (rgs news)) (hbytes : (p + m) * bytes ≤ 140737488355328) :
    Ac P n B w0 (.call { callee := .builtin .append, args := #[s, x], argTypes := #[t, t] }) ty L R (fun v R' => ∃ A' c', v = .slice A' (p + m) c' ∧ R' = R.set i ⟨e, 2, A', p + m, c', rgs (l ++ news), false⟩) := by
  have := a_append (P := P) (n := n) (B := B) (w0 := w0) (ty := ty) i hi rfl ht hinfo hz rfl hb0 hs hx hrd (rgs_one news) hbytes
  simp only [← rgs_app] at this
  exact this
theorem a_litR {t e : TypeId} {x : Operand} (r : RC) (ht : P.underlying t = some (.slice e)) (hinfo : (P.info? e).map (fun i => (i.zero, i.size)) = some (some (.agg #[.slice none 0 0, .int .i64 0]), 2)) (hx : ev L x = some (.agg #[.slice r.A r.root.length r.c, .int .i64 r.times])) :
    Ac P n B w0 (.buildSlice t 1 #[(0, x)]) ty L R (fun v R' => ∃ g, v = .slice (some ⟨g, 0, none⟩) 1 1 ∧ R' = ⟨e, 2, some ⟨g, 0, none⟩, 1, 1, rgs [r], false⟩ :: R) := by
  have hv : evp L [(0, x)] = some [(0, .agg #[.slice r.A r.root.length r.c, .int .i64 r.times])] := by simp [evp, hx]
  exact a_buildSlice (P := P) (n := n) (B := B) (w0 := w0) (L := L) (R := R) (ty := ty) (len := 1) (ps := [(0, x)]) (cells := #[.slice r.A r.root.length r.c, .int .i64 r.times]) ht hinfo hv (by decide) (by decide) (by kernel_rfl) (by rfl)
end
end Go.Eng

/-! ## F1 -/
namespace Go.Proofs.YtdfcnalkdlifiaaGreat
open Go Go.Eng Go.Pure
set_option linter.unusedVariables false
set_option maxRecDepth 100000 in
theorem isNaNI_ct {w : World} {x : Int} :
    Ct Tryz.prog 88 #[.int .i64 x] w.heap.size w [] (fun v R' => v = .bool false) := by
  refine fn1 Tryz.func88 rfl rfl rfl ?_
  refine w_seq ?_
  refine w_reg ?_
  refine wr_y rfl (y_assign rfl) ?_
  refine wr_nil ?_
  refine w_seq ?_
  refine w_reg ?_
  refine wr_y rfl (y_move rfl) ?_
  refine wr_y rfl (y_move rfl) ?_
  refine wr_y rfl (Yl.f (y_ne rfl rfl) (by omega)) ?_
  refine wr_y rfl (y_assign rfl) ?_
  refine wr_nil ?_
  refine w_ret ?_
  refine ⟨_, rfl, ?_⟩
  rfl

set_option maxRecDepth 100000 in
theorem compareI_ct {w : World} {x : Int} {y : Int} :
    Ct Tryz.prog 58 #[.int .i64 x, .int .i64 y] w.heap.size w [] (fun v R' => v = .int .i64 (cmpI x y)) := by
  refine fn1 Tryz.func58 rfl rfl rfl ?_
  refine w_seq ?_
  refine w_reg ?_
  refine wr_y rfl (y_assign rfl) ?_
  refine wr_nil ?_
  refine w_seq ?_
  refine w_reg ?_
  refine wr_y rfl (y_move rfl) ?_
  refine wr_a rfl (a_callF en88 rfl (Ct.quiet (fun w hw => isNaNI_ct))) ?_
  rintro _ _ ⟨rfl, rfl⟩
  refine wr_y rfl (y_assign rfl) ?_
  refine wr_nil ?_
  refine w_seq ?_
  refine w_reg ?_
  refine wr_y rfl (y_move rfl) ?_
  refine wr_a rfl (a_callF en88 rfl (Ct.quiet (fun w hw => isNaNI_ct))) ?_
  rintro _ _ ⟨rfl, rfl⟩
  refine wr_y rfl (y_assign rfl) ?_
  refine wr_nil ?_
  refine w_seq ?_
  refine w_seq ?_
  refine w_reg ?_
  refine wr_y rfl (y_move rfl) ?_
  refine wr_nil ?_
  refine w_false rfl ?_
  refine w_skip ?_
  refine w_seq ?_
  refine w_seq ?_
  refine w_reg ?_
  refine wr_y rfl (y_move rfl) ?_
  refine wr_nil ?_
  refine w_false rfl ?_
  refine w_skip ?_
  refine w_seq ?_
  refine w_seq ?_
  refine w_reg ?_
  refine wr_y rfl (y_move rfl) ?_
  refine wr_y rfl (y_move rfl) ?_
  refine wr_y rfl (y_lt rfl rfl) ?_
  refine wr_nil ?_
  refine w_if rfl (fun hc1 => ?_) (fun hc1 => ?_)
  ·
    refine w_seq ?_
    refine w_reg ?_
    refine wr_y rfl (y_assign rfl) ?_
    refine wr_nil ?_
    refine w_ret ?_
    refine ⟨_, rfl, ?_⟩
    exact congrArg (Value.int .i64) (by unfold cmpI; rw [if_pos (by omega)])
  ·
    refine w_skip ?_
    refine w_seq ?_
    refine w_seq ?_
    refine w_reg ?_
    refine wr_y rfl (y_move rfl) ?_
    refine wr_y rfl (y_move rfl) ?_
    refine wr_y rfl (y_gt rfl rfl) ?_
    refine wr_nil ?_
    refine w_if rfl (fun hc2 => ?_) (fun hc2 => ?_)
    ·
      refine w_seq ?_
      refine w_reg ?_
      refine wr_y rfl (y_assign rfl) ?_
      refine wr_nil ?_
      refine w_ret ?_
      refine ⟨_, rfl, ?_⟩
      exact congrArg (Value.int .i64) (by unfold cmpI; rw [if_neg (by omega), if_pos (by omega)])
    ·
      refine w_skip ?_
      refine w_seq ?_
      refine w_reg ?_
      refine wr_y rfl (y_assign rfl) ?_
      refine wr_nil ?_
      refine w_ret ?_
      refine ⟨_, rfl, ?_⟩
      exact congrArg (Value.int .i64) (by unfold cmpI; rw [if_neg (by omega), if_neg (by omega)])

set_option maxRecDepth 100000 in
theorem words4_ct {w : World} {A_u : Option Addr} {n_u c_u : Nat} {u : List Int} {A_t : Option Addr} {n_t c_t : Nat} {t : List Int} (h_u : Rd w A_u n_u c_u 1 (ints .u8 u)) (h_t : Rd w A_t n_t c_t 1 (ints .u8 t)) :
    Ct Tryz.prog 47 #[.slice A_u n_u c_u, .slice A_t n_t c_t] w.heap.size w [] (fun v R' => v = .int .i64 (cmpL u t)) := by
  obtain rfl := h_u.lenI
  obtain rfl := h_t.lenI
  refine fn1 Tryz.func47 rfl rfl rfl ?_
  have m_u := h_u.max
  have m_t := h_t.max
  refine w_seq ?_
  refine w_reg ?_
  refine wr_y rfl (y_assign rfl) ?_
  refine wr_nil ?_
  refine w_seq ?_
  refine w_seq ?_
  refine w_reg ?_
  refine wr_y rfl (y_assign rfl) ?_
  refine wr_nil ?_
  refine w_block ?_
  refine w_loop1 (fun (i : Int) => [(0, .slice A_u u.length c_u), (1, .slice A_t t.length c_t), (5, .int .i64 i)]) (fun (i : Int) => []) (fun (i : Int) => (0 ≤ i) ∧ (i ≤ u.length) ∧ (i ≤ t.length) ∧ (cmpL u t = cmpL (u.drop i.toNat) (t.drop i.toNat))) (fun (i : Int) => (u.length - i).toNat) ?_ ?_
  ·
    exact ⟨0, ⟨(by omega), (by omega), (by omega), (by simp)⟩, (Sub.cons rfl (Sub.cons rfl (Sub.cons rfl Sub.nil))), fun _ h => h⟩
  intro i ⟨hi0, hiu, hit, hc⟩
  refine w_seq ?_
  refine w_seq ?_
  refine w_reg ?_
  refine wr_y rfl (y_move rfl) ?_
  refine wr_y rfl (y_move rfl) ?_
  refine wr_y rfl (y_len Tryz.underlying23 rfl) ?_
  refine wr_y rfl (y_lt rfl rfl) ?_
  refine wr_y rfl (y_move rfl) ?_
  refine wr_mid 5 [(0, .slice A_u u.length c_u), (1, .slice A_t t.length c_t), (5, .int .i64 i), (15, .bool (decide ((i < ((u.length : Nat) : Int)) ∧ (i < ((t.length : Nat) : Int)))))] [] ?_ ?_
  ·
    refine wr_case 10 rfl (fun hc1 => ?_) (fun hc1 => ?_)
    ·
      refine wr_yes rfl rfl ?_
      refine wr_y rfl (y_move rfl) ?_
      refine wr_yes rfl rfl ?_
      refine wr_y rfl (y_move rfl) ?_
      refine wr_yes rfl rfl ?_
      refine wr_y rfl (y_len Tryz.underlying23 rfl) ?_
      refine wr_yes rfl rfl ?_
      refine wr_y rfl (y_lt rfl rfl) ?_
      refine wr_y rfl (y_pickT rfl rfl) ?_
      refine wr_nil ?_
      exact ⟨(Sub.cons rfl (Sub.cons rfl (Sub.cons rfl (Sub.to rfl (mb (by first | omega | exact ⟨fun h => ⟨(by assumption), h⟩, fun h => h.2⟩ | exact .inl (by assumption) | exact ⟨.inr, fun h => h.resolve_left (by assumption)⟩ | exact ⟨fun h => h.resolve_left (by assumption), .inr⟩ | simp [*])) Sub.nil)))), fun _ h => h⟩
    ·
      refine wr_no rfl rfl rfl rfl ?_
      refine wr_no rfl rfl rfl rfl ?_
      refine wr_no rfl rfl rfl rfl ?_
      refine wr_no rfl rfl rfl rfl ?_
      refine wr_y rfl (y_pickF rfl rfl) ?_
      refine wr_nil ?_
      exact ⟨(Sub.cons rfl (Sub.cons rfl (Sub.cons rfl (Sub.to rfl (mb_f (by first | omega | exact ⟨fun h => ⟨(by assumption), h⟩, fun h => h.2⟩ | exact .inl (by assumption) | exact ⟨.inr, fun h => h.resolve_left (by assumption)⟩ | exact ⟨fun h => h.resolve_left (by assumption), .inr⟩ | simp [*])) Sub.nil)))), fun _ h => h⟩
  refine wr_nil ?_
  refine w_if rfl (fun hc2 => ?_) (fun hc2 => ?_)
  ·
    refine w_skip ?_
    refine w_seq ?_
    refine w_block ?_
    refine w_seq ?_
    refine w_regd mixed ?_
    refine wd_y 0 rfl (by kernel_rfl) rfl (y_move rfl) ?_
    refine wd_y 1 rfl (by kernel_rfl) rfl (y_move rfl) ?_
    refine wd_y 2 rfl (by kernel_rfl) rfl (y_index1 Tryz.underlying23 sz5 rfl rfl (h_u.c _) (by omega) (by omega)) ?_
    refine wd_y 3 rfl (by kernel_rfl) rfl (y_ldI Tryz.underlying5 rfl rfl (h_u.c _) (by omega) (by omega)) ?_
    refine wd_y 4 rfl (by kernel_rfl) rfl (y_move rfl) ?_
    refine wd_y 5 rfl (by kernel_rfl) rfl (y_move rfl) ?_
    refine wd_y 6 rfl (by kernel_rfl) rfl (y_index1 Tryz.underlying23 sz5 rfl rfl (h_t.c _) (by omega) (by omega)) ?_
    refine wd_y 7 rfl (by kernel_rfl) rfl (y_ldI Tryz.underlying5 rfl rfl (h_t.c _) (by omega) (by omega)) ?_
    refine wd_y 8 rfl (by kernel_rfl) rfl (y_ne rfl rfl) ?_
    refine wd_nil (by kernel_rfl) ?_
    refine w_if rfl (fun hc3 => ?_) (fun hc3 => ?_)
    ·
      refine w_seq ?_
      refine w_seq ?_
      refine w_regd mixed ?_
      refine wd_y 0 rfl (by kernel_rfl) rfl (y_move rfl) ?_
      refine wd_y 1 rfl (by kernel_rfl) rfl (y_move rfl) ?_
      refine wd_y 2 rfl (by kernel_rfl) rfl (y_index1 Tryz.underlying23 sz5 rfl rfl (h_u.c _) (by omega) (by omega)) ?_
      refine wd_y 3 rfl (by kernel_rfl) rfl (y_ldI Tryz.underlying5 rfl rfl (h_u.c _) (by omega) (by omega)) ?_
      refine wd_y 4 rfl (by kernel_rfl) rfl (y_move rfl) ?_
      refine wd_y 5 rfl (by kernel_rfl) rfl (y_move rfl) ?_
      refine wd_y 6 rfl (by kernel_rfl) rfl (y_index1 Tryz.underlying23 sz5 rfl rfl (h_t.c _) (by omega) (by omega)) ?_
      refine wd_y 7 rfl (by kernel_rfl) rfl (y_ldI Tryz.underlying5 rfl rfl (h_t.c _) (by omega) (by omega)) ?_
      refine wd_y 8 rfl (by kernel_rfl) rfl (y_lt rfl rfl) ?_
      refine wd_nil (by kernel_rfl) ?_
      refine w_if rfl (fun hc4 => ?_) (fun hc4 => ?_)
      ·
        refine w_seq ?_
        refine w_reg ?_
        refine wr_y rfl (y_assign rfl) ?_
        refine wr_nil ?_
        refine w_ret ?_
        refine ⟨_, rfl, ?_⟩
        exact congrArg (Value.int .i64) (by rw [hc, cmpL_step hi0 (by omega) (by omega), if_pos (by omega)])
      ·
        refine w_skip ?_
        refine w_seq ?_
        refine w_reg ?_
        refine wr_y rfl (y_assign rfl) ?_
        refine wr_nil ?_
        refine w_ret ?_
        refine ⟨_, rfl, ?_⟩
        exact congrArg (Value.int .i64) (by rw [hc, cmpL_step hi0 (by omega) (by omega), if_neg (by omega), if_pos (by omega)])
    ·
      refine w_skip ?_
      refine w_reg ?_
      refine wr_y rfl (y_move rfl) ?_
      refine wr_y rfl (y_addI rfl rfl (by omega)) ?_
      refine wr_y rfl (y_assign rfl) ?_
      refine wr_nil ?_
      exact ⟨i + 1, ⟨(by omega), (by omega), (by omega), (by rw [hc, cmpL_step hi0 (by omega) (by omega), if_neg (by omega), if_neg (by omega)])⟩, (by omega), (Sub.cons rfl (Sub.cons rfl (Sub.cons rfl Sub.nil))), fun _ h => h⟩
  ·
    refine w_exit ?_
    refine w_seq ?_
    refine w_block ?_
    refine w_seq ?_
    refine w_reg ?_
    refine wr_y rfl (y_move rfl) ?_
    refine wr_y rfl (y_len Tryz.underlying23 rfl) ?_
    refine wr_y rfl (y_move rfl) ?_
    refine wr_y rfl (y_len Tryz.underlying23 rfl) ?_
    refine wr_y rfl (y_lt rfl rfl) ?_
    refine wr_y rfl (y_assign rfl) ?_
    refine wr_nil ?_
    refine w_if rfl (fun hc5 => ?_) (fun hc5 => ?_)
    ·
      refine w_seq ?_
      refine w_reg ?_
      refine wr_y rfl (y_assign rfl) ?_
      refine wr_nil ?_
      refine w_ret ?_
      refine ⟨_, rfl, ?_⟩
      exact congrArg (Value.int .i64) (by rw [hc, cmpL_end hi0 hiu hit (by omega), if_pos (by omega)])
    ·
      refine w_seq ?_
      refine w_reg ?_
      refine wr_y rfl (y_move rfl) ?_
      refine wr_y rfl (y_len Tryz.underlying23 rfl) ?_
      refine wr_y rfl (y_move rfl) ?_
      refine wr_y rfl (y_len Tryz.underlying23 rfl) ?_
      refine wr_y rfl (y_gt rfl rfl) ?_
      refine wr_y rfl (y_assign rfl) ?_
      refine wr_nil ?_
      refine w_if rfl (fun hc6 => ?_) (fun hc6 => ?_)
      ·
        refine w_seq ?_
        refine w_reg ?_
        refine wr_y rfl (y_assign rfl) ?_
        refine wr_nil ?_
        refine w_ret ?_
        refine ⟨_, rfl, ?_⟩
        exact congrArg (Value.int .i64) (by rw [hc, cmpL_end hi0 hiu hit (by omega), if_neg (by omega), if_pos (by omega)])
      ·
        refine w_skip ?_
        refine w_seq ?_
        refine w_reg ?_
        refine wr_y rfl (y_assign rfl) ?_
        refine wr_nil ?_
        refine w_ret ?_
        refine ⟨_, rfl, ?_⟩
        exact congrArg (Value.int .i64) (by rw [hc, cmpL_end hi0 hiu hit (by omega), if_neg (by omega), if_neg (by omega)])

set_option maxRecDepth 100000 in
theorem compareR8_ct {w : World} {A_u : Option Addr} {n_u c_u : Nat} {u : List Int} {A_t : Option Addr} {n_t c_t : Nat} {t : List Int} (h_u : Rd w A_u n_u c_u 1 (ints .u8 u)) (h_t : Rd w A_t n_t c_t 1 (ints .u8 t)) (hlu : u.length ≤ 1000000) (hlt : t.length ≤ 1000000) :
    Ct Tryz.prog 85 #[.slice A_u n_u c_u, .slice A_t n_t c_t] w.heap.size w [] (fun v R' => v = .int .i64 (cmpO u t)) := by
  obtain rfl := h_u.lenI
  obtain rfl := h_t.lenI
  refine fn1 Tryz.func85 rfl rfl rfl ?_
  have m_u := h_u.max
  have m_t := h_t.max
  refine w_seq ?_
  refine w_reg ?_
  refine wr_y rfl (y_assign rfl) ?_
  refine wr_nil ?_
  refine w_seq ?_
  refine w_seq ?_
  refine w_reg ?_
  refine wr_y rfl (y_move rfl) ?_
  refine wr_y rfl (y_len Tryz.underlying23 rfl) ?_
  refine wr_y rfl (y_eq rfl rfl) ?_
  refine wr_y rfl (y_move rfl) ?_
  refine wr_mid 4 [(0, .slice A_u u.length c_u), (1, .slice A_t t.length c_t), (15, .bool (decide ((((u.length : Nat) : Int) = 0) ∨ (((t.length : Nat) : Int) = 0))))] [] ?_ ?_
  ·
    refine wr_case 11 rfl (fun hc1 => ?_) (fun hc1 => ?_)
    ·
      refine wr_no rfl rfl rfl rfl ?_
      refine wr_no rfl rfl rfl rfl ?_
      refine wr_no rfl rfl rfl rfl ?_
      refine wr_y rfl (y_pickT rfl rfl) ?_
      refine wr_nil ?_
      exact ⟨(Sub.cons rfl (Sub.cons rfl (Sub.to rfl (mb_t (by first | omega | exact ⟨fun h => ⟨(by assumption), h⟩, fun h => h.2⟩ | exact .inl (by assumption) | exact ⟨.inr, fun h => h.resolve_left (by assumption)⟩ | exact ⟨fun h => h.resolve_left (by assumption), .inr⟩ | simp [*])) Sub.nil))), fun _ h => h⟩
    ·
      refine wr_yes rfl rfl ?_
      refine wr_y rfl (y_move rfl) ?_
      refine wr_yes rfl rfl ?_
      refine wr_y rfl (y_len Tryz.underlying23 rfl) ?_
      refine wr_yes rfl rfl ?_
      refine wr_y rfl (y_eq rfl rfl) ?_
      refine wr_y rfl (y_pickF rfl rfl) ?_
      refine wr_nil ?_
      exact ⟨(Sub.cons rfl (Sub.cons rfl (Sub.to rfl (mb (by first | omega | exact ⟨fun h => ⟨(by assumption), h⟩, fun h => h.2⟩ | exact .inl (by assumption) | exact ⟨.inr, fun h => h.resolve_left (by assumption)⟩ | exact ⟨fun h => h.resolve_left (by assumption), .inr⟩ | simp [*])) Sub.nil))), fun _ h => h⟩
  refine wr_nil ?_
  refine w_if rfl (fun hc2 => ?_) (fun hc2 => ?_)
  ·
    refine w_seq ?_
    refine w_regd mixed ?_
    refine wd_y 0 rfl (by kernel_rfl) rfl (y_move rfl) ?_
    refine wd_y 1 rfl (by kernel_rfl) rfl (y_move rfl) ?_
    refine wd_y 2 rfl (by kernel_rfl) rfl (y_len Tryz.underlying23 rfl) ?_
    refine wd_y 3 rfl (by kernel_rfl) rfl (y_min rfl rfl) ?_
    refine wd_y 4 rfl (by kernel_rfl) rfl (y_sliceTo Tryz.underlying23 sz5 rfl rfl (h_u.c _) (by first | omega | exact Int.emod_nonneg _ (by omega) | exact Int.emod_lt_of_pos _ (by omega)) (by first | omega | exact Int.emod_nonneg _ (by omega) | exact Int.emod_lt_of_pos _ (by omega))) ?_
    refine wd_y 5 rfl (by kernel_rfl) rfl (y_move rfl) ?_
    refine wd_y 6 rfl (by kernel_rfl) rfl (y_move rfl) ?_
    refine wd_y 7 rfl (by kernel_rfl) rfl (y_len Tryz.underlying23 rfl) ?_
    refine wd_y 8 rfl (by kernel_rfl) rfl (y_min rfl rfl) ?_
    refine wd_y 9 rfl (by kernel_rfl) rfl (y_sliceTo Tryz.underlying23 sz5 rfl rfl (h_t.c _) (by first | omega | exact Int.emod_nonneg _ (by omega) | exact Int.emod_lt_of_pos _ (by omega)) (by first | omega | exact Int.emod_nonneg _ (by omega) | exact Int.emod_lt_of_pos _ (by omega))) ?_
    refine wd_a 10 rfl (by kernel_rfl) rfl (a_callF en47 rfl (Ct.quiet (fun w hw => words4_ct ((RdC.toI (h_u.c _) (by omega)) w hw) ((RdC.toI (h_t.c _) (by omega)) w hw)))) ?_
    rintro _ _ ⟨rfl, rfl⟩
    refine ⟨.inr fun _ h => h, ?_⟩
    refine wd_y 11 rfl (by kernel_rfl) rfl (y_assign rfl) ?_
    refine wd_nil (by kernel_rfl) ?_
    refine w_ret ?_
    refine ⟨_, rfl, ?_⟩
    exact congrArg (Value.int .i64) (by rw [cmpL_first u t (by omega)]; unfold cmpO; rw [if_pos (by omega)])
  ·
    refine w_skip ?_
    refine w_seq ?_
    refine w_seq ?_
    refine w_reg ?_
    refine wr_y rfl (y_assign rfl) ?_
    refine wr_nil ?_
    refine w_block ?_
    refine w_loop1 (fun (k : Int) => [(0, .slice A_u u.length c_u), (1, .slice A_t t.length c_t), (5, .int .i64 k)]) (fun (k : Int) => []) (fun (k : Int) => (0 ≤ k) ∧ (k ≤ u.length + t.length) ∧ (cmpO u t = cmpW u t ((u.length : Int) + t.length - k).toNat k)) (fun (k : Int) => ((u.length : Int) + t.length - k).toNat) ?_ ?_
    ·
      exact ⟨0, ⟨(by omega), (by omega), (by unfold cmpO; rw [if_neg (by omega)]; congr 1 <;> omega)⟩, (Sub.cons rfl (Sub.cons rfl (Sub.cons rfl Sub.nil))), fun _ h => h⟩
    intro k ⟨hk0, hk1, hO⟩
    refine w_seq ?_
    refine w_seq ?_
    refine w_reg ?_
    refine wr_y rfl (y_move rfl) ?_
    refine wr_y rfl (y_move rfl) ?_
    refine wr_y rfl (y_len Tryz.underlying23 rfl) ?_
    refine wr_y rfl (y_move rfl) ?_
    refine wr_y rfl (y_len Tryz.underlying23 rfl) ?_
    refine wr_y rfl (y_addI rfl rfl (by first | omega | exact Int.emod_nonneg _ (by omega) | exact Int.emod_lt_of_pos _ (by omega))) ?_
    refine wr_y rfl (y_lt rfl rfl) ?_
    refine wr_nil ?_
    refine w_if rfl (fun hc3 => ?_) (fun hc3 => ?_)
    ·
      refine w_skip ?_
      refine w_seq ?_
      refine w_block ?_
      refine w_seq ?_
      refine w_regd mixed ?_
      refine wd_y 0 rfl (by kernel_rfl) rfl (y_move rfl) ?_
      refine wd_y 1 rfl (by kernel_rfl) rfl (y_move rfl) ?_
      refine wd_y 2 rfl (by kernel_rfl) rfl (y_move rfl) ?_
      refine wd_y 3 rfl (by kernel_rfl) rfl (y_len Tryz.underlying23 rfl) ?_
      refine wd_y 4 rfl (by kernel_rfl) rfl (y_rem rfl rfl (by first | omega | exact Int.emod_nonneg _ (by omega) | exact Int.emod_lt_of_pos _ (by omega)) (by first | omega | exact Int.emod_nonneg _ (by omega) | exact Int.emod_lt_of_pos _ (by omega))) ?_
      refine wd_y 5 rfl (by kernel_rfl) rfl (y_index1 Tryz.underlying23 sz5 rfl rfl (h_u.c _) (by first | omega | exact Int.emod_nonneg _ (by omega) | exact Int.emod_lt_of_pos _ (by omega)) (by first | omega | exact Int.emod_nonneg _ (by omega) | exact Int.emod_lt_of_pos _ (by omega))) ?_
      refine wd_y 6 rfl (by kernel_rfl) rfl (y_ldI Tryz.underlying5 rfl rfl (h_u.c _) (by first | omega | exact Int.emod_nonneg _ (by omega) | exact Int.emod_lt_of_pos _ (by omega)) (by first | omega | exact Int.emod_nonneg _ (by omega) | exact Int.emod_lt_of_pos _ (by omega))) ?_
      refine wd_y 7 rfl (by kernel_rfl) rfl (y_move rfl) ?_
      refine wd_y 8 rfl (by kernel_rfl) rfl (y_move rfl) ?_
      refine wd_y 9 rfl (by kernel_rfl) rfl (y_move rfl) ?_
      refine wd_y 10 rfl (by kernel_rfl) rfl (y_len Tryz.underlying23 rfl) ?_
      refine wd_y 11 rfl (by kernel_rfl) rfl (y_rem rfl rfl (by first | omega | exact Int.emod_nonneg _ (by omega) | exact Int.emod_lt_of_pos _ (by omega)) (by first | omega | exact Int.emod_nonneg _ (by omega) | exact Int.emod_lt_of_pos _ (by omega))) ?_
      refine wd_y 12 rfl (by kernel_rfl) rfl (y_index1 Tryz.underlying23 sz5 rfl rfl (h_t.c _) (by first | omega | exact Int.emod_nonneg _ (by omega) | exact Int.emod_lt_of_pos _ (by omega)) (by first | omega | exact Int.emod_nonneg _ (by omega) | exact Int.emod_lt_of_pos _ (by omega))) ?_
      refine wd_y 13 rfl (by kernel_rfl) rfl (y_ldI Tryz.underlying5 rfl rfl (h_t.c _) (by first | omega | exact Int.emod_nonneg _ (by omega) | exact Int.emod_lt_of_pos _ (by omega)) (by first | omega | exact Int.emod_nonneg _ (by omega) | exact Int.emod_lt_of_pos _ (by omega))) ?_
      refine wd_y 14 rfl (by kernel_rfl) rfl (y_assign rfl) ?_
      refine wd_y 15 rfl (by kernel_rfl) rfl (y_assign rfl) ?_
      refine wd_nil (by kernel_rfl) ?_
      refine w_seq ?_
      refine w_seq ?_
      refine w_reg ?_
      refine wr_y rfl (y_move rfl) ?_
      refine wr_y rfl (y_move rfl) ?_
      refine wr_y rfl (y_lt rfl rfl) ?_
      refine wr_nil ?_
      refine w_if rfl (fun hc4 => ?_) (fun hc4 => ?_)
      ·
        refine w_seq ?_
        refine w_reg ?_
        refine wr_y rfl (y_assign rfl) ?_
        refine wr_nil ?_
        refine w_ret ?_
        refine ⟨_, rfl, ?_⟩
        exact congrArg (Value.int .i64) (by rw [hO, cmpW_hit (by omega) (by unfold cmpI; rw [if_pos (by omega)]; decide)]; unfold cmpI; rw [if_pos (by omega)])
      ·
        refine w_skip ?_
        refine w_seq ?_
        refine w_reg ?_
        refine wr_y rfl (y_move rfl) ?_
        refine wr_y rfl (y_move rfl) ?_
        refine wr_y rfl (y_gt rfl rfl) ?_
        refine wr_nil ?_
        refine w_if rfl (fun hc5 => ?_) (fun hc5 => ?_)
        ·
          refine w_seq ?_
          refine w_reg ?_
          refine wr_y rfl (y_assign rfl) ?_
          refine wr_nil ?_
          refine w_ret ?_
          refine ⟨_, rfl, ?_⟩
          exact congrArg (Value.int .i64) (by rw [hO, cmpW_hit (by omega) (by unfold cmpI; rw [if_neg (by omega), if_pos (by omega)]; decide)]; unfold cmpI; rw [if_neg (by omega), if_pos (by omega)])
        ·
          refine w_skip ?_
          refine w_reg ?_
          refine wr_y rfl (y_move rfl) ?_
          refine wr_y rfl (y_addI rfl rfl (by first | omega | exact Int.emod_nonneg _ (by omega) | exact Int.emod_lt_of_pos _ (by omega))) ?_
          refine wr_y rfl (y_assign rfl) ?_
          refine wr_nil ?_
          exact ⟨k + 1, ⟨(by omega), (by omega), (by rw [hO, cmpW_go (by omega) (by unfold cmpI; rw [if_neg (by omega), if_neg (by omega)])]; congr 1 <;> omega)⟩, (by omega), (Sub.cons rfl (Sub.cons rfl (Sub.cons rfl Sub.nil))), fun _ h => h⟩
    ·
      refine w_exit ?_
      refine w_seq ?_
      refine w_reg ?_
      refine wr_y rfl (y_assign rfl) ?_
      refine wr_nil ?_
      refine w_ret ?_
      refine ⟨_, rfl, ?_⟩
      exact congrArg (Value.int .i64) (by rw [hO, show ((u.length : Int) + t.length - k).toNat = 0 by omega]; rfl)

end Go.Proofs.YtdfcnalkdlifiaaGreat

/-! ## N2 -/
namespace Go.Proofs.YtdfcnalkdlifiaaGreat
open Go Go.Eng Go.Pure
set_option linter.unusedVariables false
theorem lrotK_lt (s : List Int) : ∀ n : Nat, 0 < n → lrotK s n < n
  | 1, _ => by
    have e : lrotK s 1 = 0 := by
      rw [lrotK, lrotK]
      split <;> rfl
    omega
  | n + 2, _ => by
    have ih := lrotK_lt s (n + 1) (by omega)
    rw [lrotK]
    split <;> omega
theorem lrotK_yes {u : List Int} {i k : Int} (i1 : 1 ≤ i) (hk : k = lrotK u i.toNat) (h : cmpL (turnS u i) (turnS u k) < 0) : i = lrotK u (i + 1).toNat := by
  rw [show (i + 1).toNat = i.toNat + 1 by omega, lrotK, if_pos (by rw [← hk, Int.toNat_of_nonneg (by omega)]; exact h)]
  omega
theorem lrotK_no {u : List Int} {i k : Int} (i1 : 1 ≤ i) (hk : k = lrotK u i.toNat) (h : ¬ cmpL (turnS u i) (turnS u k) < 0) : k = lrotK u (i + 1).toNat := by
  rw [show (i + 1).toNat = i.toNat + 1 by omega, lrotK, if_neg (by rw [← hk, Int.toNat_of_nonneg (by omega)]; exact h), hk]
set_option maxRecDepth 100000 in
theorem ofL_ct {w : World} {A_u : Option Addr} {n_u c_u : Nat} {u : List Int} (h_u : Rd w A_u n_u c_u 1 (ints .u8 u)) (bh_u : ByteL u) (hN : u.length ≤ 1000000) :
    Ct Tryz.prog 62 #[.slice A_u n_u c_u] w.heap.size w [] (fun v R' => ∃ A c, v = .slice A (lw u).length c ∧ R' = [⟨5, 1, A, (lw u).length, c, ints .u8 (lw u), false⟩]) := by
  obtain rfl := h_u.lenI
  refine fn1 Tryz.func62 rfl rfl rfl ?_
  have m_u := h_u.max
  have hlr := lrot_bd u
  have hfe : ([u.drop (lrot u).toNat, u.take (lrot u).toNat] : List (List Int)).flatten = lw u := by simp [lw, turnS]
  have hlw := lw_len u
  refine w_seq ?_
  refine w_reg ?_
  refine wr_y rfl (y_assign rfl) ?_
  refine wr_nil ?_
  refine w_seq ?_
  refine w_reg ?_
  refine wr_y rfl (y_move rfl) ?_
  refine wr_a rfl (a_callF en91 rfl (Ct.quiet (fun w hw => at6_ct ((h_u.c _) w hw) (by first | assumption | omega | decide)))) ?_
  rintro _ _ ⟨rfl, rfl⟩
  refine wr_y rfl (y_assign rfl) ?_
  refine wr_nil ?_
  refine w_seq ?_
  refine w_regd mixed ?_
  refine wd_y 0 rfl (by kernel_rfl) rfl (y_move rfl) ?_
  refine wd_y 1 rfl (by kernel_rfl) rfl (y_move rfl) ?_
  refine wd_y 2 rfl (by kernel_rfl) rfl (y_sliceFrom Tryz.underlying23 sz5 rfl rfl (by omega) (by omega)) ?_
  refine wd_y 3 rfl (by kernel_rfl) rfl (y_move rfl) ?_
  refine wd_y 4 rfl (by kernel_rfl) rfl (y_move rfl) ?_
  refine wd_y 5 rfl (by kernel_rfl) rfl (y_sliceTo Tryz.underlying23 sz5 rfl rfl (h_u.c _) (by omega) (by omega)) ?_
  have hsw : SlW .u8 w [.slice (cutA A_u (lrot u).toNat c_u 1) (u.length - (lrot u).toNat) (c_u - (lrot u).toNat), .slice A_u ((lrot u).toNat) c_u] [u.drop (lrot u).toNat, u.take (lrot u).toNat] := ((slw_none _ _).snoc (h_u.fromI (l := (lrot u).toNat) (by omega)) (fun x hx => wf_byte (bh_u x (List.mem_of_mem_drop hx))) (by rw [List.length_drop]; omega)).snoc (h_u.toI (by omega)) (fun x hx => wf_byte (bh_u x (List.mem_of_mem_take hx))) (by rw [List.length_take]; omega)
  refine wd_a 6 rfl (by kernel_rfl) rfl (a_lit [Value.slice (cutA A_u (lrot u).toNat c_u 1) (u.length - (lrot u).toNat) (c_u - (lrot u).toNat), Value.slice A_u ((lrot u).toNat) c_u] Tryz.underlying22 zs23 rfl rfl rfl rfl) ?_
  rintro _ _ ⟨g_2, rfl, rfl⟩
  refine ⟨.inr fun _ h => h.right (R' := [_]), ?_⟩
  refine wd_a 7 rfl (by kernel_rfl) rfl (a_callF en92 rfl (Ct.fresh (fun w hw => concatB_ct ((rdr 0 rfl) w hw) (hsw.c hw) (by rw [hfe]; exact ⟨by omega, by simp⟩)))) ?_
  rintro _ _ ⟨_, rfl, A_3, c_4, rfl, rfl⟩
  refine ⟨.inr fun _ h => h.right (R' := [_]), ?_⟩
  refine wd_y 8 rfl (by kernel_rfl) rfl (y_assign rfl) ?_
  refine wd_nil (by kernel_rfl) ?_
  refine w_retR (R1 := [⟨5, 1, A_3, ((([u.drop (lrot u).toNat, u.take (lrot u).toNat])).flatten).length, c_4, ints .u8 ((([u.drop (lrot u).toNat, u.take (lrot u).toNat])).flatten), false⟩]) (fun _ h => h.sel [0] (by decide) rfl) ?_
  refine ⟨_, rfl, ?_⟩
  rw [hfe]
  exact ⟨_, _, rfl, rfl⟩

set_option maxRecDepth 100000 in
theorem cloneB_ct {w : World} {A_u : Option Addr} {n_u c_u : Nat} {u : List Int} (h_u : Rd w A_u n_u c_u 1 (ints .u8 u)) (hN : u.length ≤ 1000000) :
    Ct Tryz.prog 90 #[.slice A_u n_u c_u] w.heap.size w [] (fun v R' => ∃ A c, v = .slice A (u).length c ∧ R' = [⟨5, 1, A, (u).length, c, ints .u8 (u), false⟩]) := by
  obtain rfl := h_u.lenI
  refine fn1 Tryz.func90 rfl rfl rfl ?_
  have m_u := h_u.max
  refine w_seq ?_
  refine w_reg ?_
  refine wr_sub (R1 := [⟨5, 1, none, 0, 0, ints .u8 ([]), false⟩]) (Sub.refl _) (fun _ h => h.nil 5 1) ?_
  refine wr_y rfl (y_assign rfl) ?_
  refine wr_nil ?_
  refine w_seq ?_
  refine w_seq ?_
  refine w_reg ?_
  refine wr_y rfl (y_move rfl) ?_
  refine wr_y rfl (y_slNil Tryz.underlying23 rfl rfl) ?_
  refine wr_nil ?_
  refine w_cond rfl (fun hc1 => ?_) (fun hc1 => ?_)
  ·
    refine w_seq ?_
    refine w_reg ?_
    refine wr_y rfl (y_assign rfl) ?_
    refine wr_nil ?_
    refine w_retR (R1 := [⟨5, 1, none, 0, 0, ints .u8 ([]), false⟩]) (fun _ h => h.sel [0] (by decide) rfl) ?_
    refine ⟨_, rfl, ?_⟩
    obtain rfl := rd_isNone h_u hc1
    exact ⟨_, _, rfl, rfl⟩
  ·
    refine w_skip ?_
    refine w_seq ?_
    refine w_reg ?_
    refine wr_a rfl (a_litI .u8 [] Tryz.underlying23 zs5 rfl rfl rfl) ?_
    rintro _ _ ⟨g_2, rfl, rfl⟩
    refine wr_y rfl (y_move rfl) ?_
    refine wr_a rfl (a_appendI 0 rfl Tryz.underlying23 zb5 rfl rfl rfl (h_u.c _) (by omega)) ?_
    rintro _ _ ⟨A_3, c_4, rfl, rfl⟩
    refine wr_rows (R1 := [⟨5, 1, A_3, (0 + u.length), c_4, ints .u8 (([]) ++ u), false⟩, ⟨5, 1, none, 0, 0, ints .u8 ([]), false⟩]) rfl ?_
    refine wr_as (v := .slice A_3 (0 + u.length) c_4) rfl ?_
    refine wr_y rfl (y_assign rfl) ?_
    refine wr_nil ?_
    refine w_retR (R1 := [⟨5, 1, A_3, (0 + u.length), c_4, ints .u8 (([]) ++ u), false⟩]) (fun _ h => h.sel [0] (by decide) rfl) ?_
    refine ⟨_, rfl, ?_⟩
    simp only [List.nil_append, Nat.zero_add]
    exact ⟨_, _, rfl, rfl⟩

set_option maxRecDepth 100000 in
theorem compareBB_ct {w : World} {A_u : Option Addr} {n_u c_u : Nat} {u : List Int} {A_t : Option Addr} {n_t c_t : Nat} {t : List Int} (h_u : Rd w A_u n_u c_u 1 (ints .u8 u)) (h_t : Rd w A_t n_t c_t 1 (ints .u8 t)) (bh_u : ByteL u) (bh_t : ByteL t) :
    Ct Tryz.prog 41 #[.slice A_u n_u c_u, .slice A_t n_t c_t] w.heap.size w [] (fun v R' => v = .int .i64 (cmpL u t)) := by
  obtain rfl := h_u.lenI
  obtain rfl := h_t.lenI
  refine fn1 Tryz.func41 rfl rfl rfl ?_
  have m_u := h_u.max
  have m_t := h_t.max
  refine w_seq ?_
  refine w_reg ?_
  refine wr_y rfl (y_assign rfl) ?_
  refine wr_nil ?_
  refine w_seq ?_
  refine w_reg ?_
  refine wr_y rfl (y_move rfl) ?_
  refine wr_y rfl (y_move rfl) ?_
  refine wr_a rfl (a_cmp Tryz.func71 (by kernel_rfl) (by kernel_rfl) (by kernel_rfl) (by kernel_rfl) rfl rfl (h_u.c _) (h_t.c _) bh_u bh_t) ?_
  rintro _ _ ⟨rfl, rfl⟩
  refine wr_y rfl (y_assign rfl) ?_
  refine wr_nil ?_
  refine w_ret ?_
  refine ⟨_, rfl, ?_⟩
  rfl

set_option maxRecDepth 100000 in
theorem turns4_ct {w : World} {A_u : Option Addr} {n_u c_u : Nat} {u : List Int} {i : Int} {k : Int} (h_u : Rd w A_u n_u c_u 1 (ints .u8 u)) (hi : 0 ≤ i ∧ i < u.length) (hk : 0 ≤ k ∧ k < u.length) (hN : u.length ≤ 1000000) :
    Ct Tryz.prog 74 #[.slice A_u n_u c_u, .int .i64 i, .int .i64 k] w.heap.size w [] (fun v R' => v = .int .i64 (cmpL (turnS u i) (turnS u k))) := by
  obtain rfl := h_u.lenI
  refine fn1 Tryz.func74 rfl rfl rfl ?_
  have m_u := h_u.max
  refine w_seq ?_
  refine w_reg ?_
  refine wr_y rfl (y_assign rfl) ?_
  refine wr_nil ?_
  refine w_seq ?_
  refine w_seq ?_
  refine w_reg ?_
  refine wr_y rfl (y_move rfl) ?_
  refine wr_y rfl (Yl.f (y_lt rfl rfl) (by omega)) ?_
  refine wr_y rfl (y_move rfl) ?_
  refine wr_yes rfl rfl ?_
  refine wr_y rfl (y_move rfl) ?_
  refine wr_yes rfl rfl ?_
  refine wr_y rfl (y_move rfl) ?_
  refine wr_yes rfl rfl ?_
  refine wr_y rfl (y_len Tryz.underlying23 rfl) ?_
  refine wr_yes rfl rfl ?_
  refine wr_y rfl (Yl.f (y_ge rfl rfl) (by omega)) ?_
  refine wr_y rfl (y_pickF rfl rfl) ?_
  refine wr_y rfl (y_move rfl) ?_
  refine wr_yes rfl rfl ?_
  refine wr_y rfl (y_move rfl) ?_
  refine wr_yes rfl rfl ?_
  refine wr_y rfl (Yl.f (y_lt rfl rfl) (by omega)) ?_
  refine wr_y rfl (y_pickF rfl rfl) ?_
  refine wr_y rfl (y_move rfl) ?_
  refine wr_yes rfl rfl ?_
  refine wr_y rfl (y_move rfl) ?_
  refine wr_yes rfl rfl ?_
  refine wr_y rfl (y_move rfl) ?_
  refine wr_yes rfl rfl ?_
  refine wr_y rfl (y_len Tryz.underlying23 rfl) ?_
  refine wr_yes rfl rfl ?_
  refine wr_y rfl (Yl.f (y_ge rfl rfl) (by omega)) ?_
  refine wr_y rfl (y_pickF rfl rfl) ?_
  refine wr_nil ?_
  refine w_false rfl ?_
  refine w_skip ?_
  refine w_seq ?_
  refine w_reg ?_
  refine wr_y rfl (y_move rfl) ?_
  refine wr_y rfl (y_move rfl) ?_
  refine wr_a rfl (a_callF en44 rfl (Ct.fresh (fun w hw => turn4_ct ((h_u.c _) w hw) ⟨hi.1, by omega⟩ (by first | assumption | omega | decide)))) ?_
  rintro _ _ ⟨_, rfl, A_1, c_2, rfl, rfl⟩
  refine wr_y rfl (y_move rfl) ?_
  refine wr_y rfl (y_move rfl) ?_
  refine wr_a rfl (a_callF en44 rfl (Ct.fresh (fun w hw => turn4_ct ((h_u.c _) w hw) ⟨hk.1, by omega⟩ (by first | assumption | omega | decide)))) ?_
  rintro _ _ ⟨_, rfl, A_4, c_5, rfl, rfl⟩
  refine wr_a rfl (a_callF en47 rfl (Ct.quiet (fun w hw => words4_ct ((rdr 1 rfl) w hw) ((rdr 0 rfl) w hw)))) ?_
  rintro _ _ ⟨rfl, rfl⟩
  refine wr_y rfl (y_assign rfl) ?_
  refine wr_nil ?_
  refine w_retR (R1 := []) (fun _ h => h.sel [] (by decide) rfl) ?_
  refine ⟨_, rfl, ?_⟩
  rfl

set_option maxRecDepth 100000 in
theorem atR6_ct {w : World} {A_u : Option Addr} {n_u c_u : Nat} {u : List Int} (h_u : Rd w A_u n_u c_u 1 (ints .u8 u)) (hN : u.length ≤ 1000000) :
    Ct Tryz.prog 45 #[.slice A_u n_u c_u] w.heap.size w [] (fun v R' => v = .int .i64 (lrot u)) := by
  obtain rfl := h_u.lenI
  refine fn1 Tryz.func45 rfl rfl rfl ?_
  have m_u := h_u.max
  refine w_seq ?_
  refine w_reg ?_
  refine wr_y rfl (y_assign rfl) ?_
  refine wr_nil ?_
  refine w_seq ?_
  refine w_reg ?_
  refine wr_y rfl (y_assign rfl) ?_
  refine wr_nil ?_
  refine w_seq ?_
  refine w_seq ?_
  refine w_reg ?_
  refine wr_y rfl (y_assign rfl) ?_
  refine wr_nil ?_
  refine w_block ?_
  refine w_loop2 (fun (i : Int) (k : Int) => [(0, .slice A_u u.length c_u), (3, .int .i64 k), (4, .int .i64 i)]) (fun (i : Int) (k : Int) => []) (fun (i : Int) (k : Int) => (1 ≤ i) ∧ (i ≤ u.length ∨ i = 1) ∧ (k = lrotK u i.toNat)) (fun (i : Int) (k : Int) => (u.length - i).toNat) ?_ ?_
  ·
    exact ⟨1, 0, ⟨(by omega), (by omega), (by have := lrotK_lt u 1 (by decide); show (0 : Int) = ((lrotK u 1 : Nat) : Int); omega)⟩, (Sub.cons rfl (Sub.cons rfl (Sub.cons rfl Sub.nil))), fun _ h => h⟩
  intro i k ⟨hi1, hi2, hk⟩
  have hkl := lrotK_lt u i.toNat (by omega)
  refine w_seq ?_
  refine w_seq ?_
  refine w_reg ?_
  refine wr_y rfl (y_move rfl) ?_
  refine wr_y rfl (y_move rfl) ?_
  refine wr_y rfl (y_len Tryz.underlying23 rfl) ?_
  refine wr_y rfl (y_lt rfl rfl) ?_
  refine wr_nil ?_
  refine w_if rfl (fun hc1 => ?_) (fun hc1 => ?_)
  ·
    refine w_skip ?_
    refine w_seq ?_
    refine w_block ?_
    refine w_seq ?_
    refine w_reg ?_
    refine wr_y rfl (y_move rfl) ?_
    refine wr_y rfl (y_move rfl) ?_
    refine wr_y rfl (y_move rfl) ?_
    refine wr_a rfl (a_callF en74 rfl (Ct.quiet (fun w hw => turns4_ct ((h_u.c _) w hw) (by first | assumption | omega | decide) (by first | assumption | omega | decide) (by first | assumption | omega | decide)))) ?_
    rintro _ _ ⟨rfl, rfl⟩
    refine wr_y rfl (y_lt rfl rfl) ?_
    refine wr_nil ?_
    refine w_if rfl (fun hc2 => ?_) (fun hc2 => ?_)
    ·
      refine w_reg ?_
      refine wr_y rfl (y_move rfl) ?_
      refine wr_y rfl (y_assign rfl) ?_
      refine wr_nil ?_
      refine w_reg ?_
      refine wr_y rfl (y_move rfl) ?_
      refine wr_y rfl (y_addI rfl rfl (by omega)) ?_
      refine wr_y rfl (y_assign rfl) ?_
      refine wr_nil ?_
      exact ⟨i + 1, i, ⟨(by omega), (by omega), (lrotK_yes hi1 hk (by assumption))⟩, (by omega), (Sub.cons rfl (Sub.cons rfl (Sub.cons rfl Sub.nil))), fun _ h => h⟩
    ·
      refine w_skip ?_
      refine w_reg ?_
      refine wr_y rfl (y_move rfl) ?_
      refine wr_y rfl (y_addI rfl rfl (by omega)) ?_
      refine wr_y rfl (y_assign rfl) ?_
      refine wr_nil ?_
      exact ⟨i + 1, k, ⟨(by omega), (by omega), (lrotK_no hi1 hk (by assumption))⟩, (by omega), (Sub.cons rfl (Sub.cons rfl (Sub.cons rfl Sub.nil))), fun _ h => h⟩
  ·
    refine w_exit ?_
    refine w_seq ?_
    refine w_reg ?_
    refine wr_y rfl (y_move rfl) ?_
    refine wr_y rfl (y_assign rfl) ?_
    refine wr_nil ?_
    refine w_ret ?_
    refine ⟨_, rfl, ?_⟩
    rcases Nat.eq_zero_or_pos u.length with z | z
    · obtain rfl : k = 0 := by omega
      have e : lrot u = 0 := by unfold lrot; rw [z]; rfl
      rw [e]
    · obtain rfl : i = u.length := by omega
      rw [hk, Int.toNat_natCast]; rfl

set_option maxRecDepth 100000 in
theorem of6_ct {w : World} {A_u : Option Addr} {n_u c_u : Nat} {u : List Int} (h_u : Rd w A_u n_u c_u 1 (ints .u8 u)) (hN : u.length ≤ 1000000) :
    Ct Tryz.prog 24 #[.slice A_u n_u c_u] w.heap.size w [] (fun v R' => ∃ A c, v = .slice A (lw u).length c ∧ R' = [⟨5, 1, A, (lw u).length, c, ints .u8 (lw u), false⟩]) := by
  obtain rfl := h_u.lenI
  refine fn1 Tryz.func24 rfl rfl rfl ?_
  have m_u := h_u.max
  have hlr := lrot_bd u
  refine w_seq ?_
  refine w_reg ?_
  refine wr_y rfl (y_assign rfl) ?_
  refine wr_nil ?_
  refine w_seq ?_
  refine w_reg ?_
  refine wr_y rfl (y_move rfl) ?_
  refine wr_y rfl (y_move rfl) ?_
  refine wr_a rfl (a_callF en45 rfl (Ct.quiet (fun w hw => atR6_ct ((h_u.c _) w hw) (by first | assumption | omega | decide)))) ?_
  rintro _ _ ⟨rfl, rfl⟩
  refine wr_a rfl (a_callF en44 rfl (Ct.fresh (fun w hw => turn4_ct ((h_u.c _) w hw) ⟨hlr.1, hlr.2.1⟩ (by first | assumption | omega | decide)))) ?_
  rintro _ _ ⟨_, rfl, A_1, c_2, rfl, rfl⟩
  refine wr_y rfl (y_assign rfl) ?_
  refine wr_nil ?_
  refine w_retR (R1 := [⟨5, 1, A_1, (u.drop ((lrot u)).toNat ++ u.take ((lrot u)).toNat).length, c_2, ints .u8 (u.drop ((lrot u)).toNat ++ u.take ((lrot u)).toNat), false⟩]) (fun _ h => h.sel [0] (by decide) rfl) ?_
  refine ⟨_, rfl, ?_⟩
  exact ⟨_, _, rfl, rfl⟩

theorem bord_step {u L : List Int} {i z : Int} (i1 : 1 ≤ i) (hi : i < u.length) (hl : L.length = u.length) (hM : ∀ j : Int, 0 ≤ j → j < i → j < u.length → MB u (j + 1).toNat (rd L j)) (h : MB u (i.toNat + 1) z) : ∀ j : Int, 0 ≤ j → j < i + 1 → j < u.length → MB u (j + 1).toNat (rd (upd L i z) j) := fun j h0 h1 h2 => by
  by_cases e : j = i
  · subst e
    rw [rd_upd_same (by omega) (by omega), show (j + 1).toNat = j.toNat + 1 by omega]
    exact h
  · rw [rd_upd_other (by omega) h0 (fun q => e q.symm)]
    exact hM j h0 (by omega) h2
set_option maxRecDepth 100000 in
set_option maxHeartbeats 800000 in
theorem borders_ct {w : World} {A_u : Option Addr} {n_u c_u : Nat} {u : List Int} (h_u : Rd w A_u n_u c_u 1 (ints .u8 u)) (hN : u.length ≤ 1000000) :
    Ct Tryz.prog 122 #[.slice A_u n_u c_u] w.heap.size w [] (fun v R' => ∃ (A : Option Addr) (c : Nat) (L : List Int), v = .slice A L.length c ∧ L.length = u.length ∧ (∀ j : Int, 0 ≤ j → j < u.length → j < u.length → MB u (j + 1).toNat (rd L j)) ∧ R' = [⟨3, 1, A, L.length, c, ints .i64 L, false⟩]) := by
  obtain rfl := h_u.lenI
  refine fn1 Tryz.func122 rfl rfl rfl ?_
  have m_u := h_u.max
  refine w_seq ?_
  refine w_reg ?_
  refine wr_y rfl (y_assign rfl) ?_
  refine wr_nil ?_
  refine w_seq ?_
  refine w_reg ?_
  refine wr_y rfl (y_move rfl) ?_
  refine wr_y rfl (y_len Tryz.underlying23 rfl) ?_
  refine wr_a rfl (a_makeN Tryz.underlying24 zb3 rfl rfl (by omega) (by omega) (by omega)) ?_
  rintro _ _ ⟨g_1, rfl, rfl⟩
  refine wr_rows (R1 := [⟨3, 1, (some ⟨g_1, 0, none⟩), u.length, u.length, ints .i64 (List.replicate u.length (0 : Int)), false⟩]) rfl ?_
  refine wr_as (v := .slice (some ⟨g_1, 0, none⟩) u.length u.length) rfl ?_
  refine wr_y rfl (y_assign rfl) ?_
  refine wr_nil ?_
  refine w_seq ?_
  refine w_reg ?_
  refine wr_y rfl (y_assign rfl) ?_
  refine wr_nil ?_
  refine w_seq ?_
  refine w_seq ?_
  refine w_reg ?_
  refine wr_y rfl (y_assign rfl) ?_
  refine wr_nil ?_
  refine w_block ?_
  refine w_loop3 (fun (i : Int) (z : Int) (L : List Int) => [(0, .slice A_u u.length c_u), (3, .slice (some ⟨g_1, 0, none⟩) u.length u.length), (4, .int .i64 z), (5, .int .i64 i)]) (fun (i : Int) (z : Int) (L : List Int) => [⟨3, 1, (some ⟨g_1, 0, none⟩), u.length, u.length, ints .i64 L, false⟩]) (fun (i : Int) (z : Int) (L : List Int) => (1 ≤ i) ∧ (i ≤ u.length ∨ i = 1) ∧ (L.length = u.length) ∧ (∀ j : Int, 0 ≤ j → j < i → j < u.length → MB u (j + 1).toNat (rd L j)) ∧ (MB u i.toNat z)) (fun (i : Int) (z : Int) (L : List Int) => (u.length - i).toNat) ?_ ?_
  ·
    exact ⟨1, 0, List.replicate u.length (0 : Int), ⟨(by omega), (by omega), (by rw [List.length_replicate]), (fun j h0 h1 h2 => by obtain rfl : j = 0 := (by omega); have e : rd (List.replicate u.length (0 : Int)) 0 = 0 := (by unfold rd; rw [List.getD_eq_getElem?_getD, List.getElem?_replicate]; split <;> rfl); rw [e]; exact MB.one), (MB.one)⟩, (Sub.cons rfl (Sub.cons rfl (Sub.cons rfl (Sub.cons rfl Sub.nil)))), fun _ h => h⟩
  intro i z L ⟨hi1, hi2, hLl, hM, hn⟩
  refine w_seq ?_
  refine w_seq ?_
  refine w_reg ?_
  refine wr_y rfl (y_move rfl) ?_
  refine wr_y rfl (y_move rfl) ?_
  refine wr_y rfl (y_len Tryz.underlying23 rfl) ?_
  refine wr_y rfl (y_lt rfl rfl) ?_
  refine wr_nil ?_
  refine w_if rfl (fun hc1 => ?_) (fun hc1 => ?_)
  ·
    refine w_skip ?_
    refine w_seq ?_
    refine w_block ?_
    refine w_seq ?_
    refine w_block ?_
    refine w_loop1 (fun (m : Int) => [(0, .slice A_u u.length c_u), (3, .slice (some ⟨g_1, 0, none⟩) u.length u.length), (4, .int .i64 m), (5, .int .i64 i)]) (fun (m : Int) => [⟨3, 1, (some ⟨g_1, 0, none⟩), u.length, u.length, ints .i64 L, false⟩]) (fun (m : Int) => (KI u i.toNat m)) (fun (m : Int) => m.toNat) ?_ ?_
    ·
      exact ⟨z, (KI.init hn), (Sub.cons rfl (Sub.cons rfl (Sub.cons rfl (Sub.cons rfl Sub.nil)))), fun _ h => h⟩
    intro m hK
    have hKb := hK.bd
    refine w_seq ?_
    refine w_join0 [(0, .slice A_u u.length c_u), (3, .slice (some ⟨g_1, 0, none⟩) u.length u.length), (4, .int .i64 m), (5, .int .i64 i), (27, .bool (decide ((0 < m) ∧ ((rd u i) ≠ (rd u m)))))] [⟨3, 1, (some ⟨g_1, 0, none⟩), u.length, u.length, ints .i64 L, false⟩] ?_ ?_
    ·
      refine w_regd mixed ?_
      refine wd_y 0 rfl (by kernel_rfl) rfl (y_move rfl) ?_
      refine wd_y 1 rfl (by kernel_rfl) rfl (y_gt rfl rfl) ?_
      refine wd_y 2 rfl (by kernel_rfl) rfl (y_move rfl) ?_
      refine wd_case 17 rfl (fun hc2 => ?_) (fun hc2 => ?_)
      ·
        refine wd_yg 3 rfl (by kernel_rfl) rfl rfl rfl (y_move rfl) ?_
        refine wd_yg 4 rfl (by kernel_rfl) rfl rfl rfl (y_move rfl) ?_
        refine wd_yg 5 rfl (by kernel_rfl) rfl rfl rfl (y_index1 Tryz.underlying23 sz5 rfl rfl (h_u.c _) (by omega) (by omega)) ?_
        refine wd_yg 6 rfl (by kernel_rfl) rfl rfl rfl (y_ldI Tryz.underlying5 rfl rfl (h_u.c _) (by omega) (by omega)) ?_
        refine wd_yg 7 rfl (by kernel_rfl) rfl rfl rfl (y_move rfl) ?_
        refine wd_yg 8 rfl (by kernel_rfl) rfl rfl rfl (y_move rfl) ?_
        refine wd_yg 9 rfl (by kernel_rfl) rfl rfl rfl (y_index1 Tryz.underlying23 sz5 rfl rfl (h_u.c _) (by omega) (by omega)) ?_
        refine wd_yg 10 rfl (by kernel_rfl) rfl rfl rfl (y_ldI Tryz.underlying5 rfl rfl (h_u.c _) (by omega) (by omega)) ?_
        refine wd_yg 11 rfl (by kernel_rfl) rfl rfl rfl (y_ne rfl rfl) ?_
        refine wd_y 12 rfl (by kernel_rfl) rfl (y_pickT rfl rfl) ?_
        refine wd_nil (by kernel_rfl) ?_
        exact ⟨(Sub.cons rfl (Sub.cons rfl (Sub.cons rfl (Sub.cons rfl (Sub.to rfl (mb (by first | omega | exact ⟨fun h => ⟨(by assumption), h⟩, fun h => h.2⟩ | exact .inl (by assumption) | exact ⟨.inr, fun h => h.resolve_left (by assumption)⟩ | exact ⟨fun h => h.resolve_left (by assumption), .inr⟩ | simp [*])) Sub.nil))))), fun _ h => h⟩
      ·
        refine wd_no 3 rfl (by kernel_rfl) rfl rfl rfl rfl ?_
        refine wd_no 4 rfl (by kernel_rfl) rfl rfl rfl rfl ?_
        refine wd_no 5 rfl (by kernel_rfl) rfl rfl rfl rfl ?_
        refine wd_no 6 rfl (by kernel_rfl) rfl rfl rfl rfl ?_
        refine wd_no 7 rfl (by kernel_rfl) rfl rfl rfl rfl ?_
        refine wd_no 8 rfl (by kernel_rfl) rfl rfl rfl rfl ?_
        refine wd_no 9 rfl (by kernel_rfl) rfl rfl rfl rfl ?_
        refine wd_no 10 rfl (by kernel_rfl) rfl rfl rfl rfl ?_
        refine wd_no 11 rfl (by kernel_rfl) rfl rfl rfl rfl ?_
        refine wd_y 12 rfl (by kernel_rfl) rfl (y_pickF rfl rfl) ?_
        refine wd_nil (by kernel_rfl) ?_
        exact ⟨(Sub.cons rfl (Sub.cons rfl (Sub.cons rfl (Sub.cons rfl (Sub.to rfl (mb_f (by first | omega | exact ⟨fun h => ⟨(by assumption), h⟩, fun h => h.2⟩ | exact .inl (by assumption) | exact ⟨.inr, fun h => h.resolve_left (by assumption)⟩ | exact ⟨fun h => h.resolve_left (by assumption), .inr⟩ | simp [*])) Sub.nil))))), fun _ h => h⟩
    refine w_if rfl (fun hc3 => ?_) (fun hc3 => ?_)
    ·
      have hst : rd u m ≠ rd u i := fun e => hc3.2 e.symm
      have hMm := hM (m - 1) (by omega) (by omega) (by omega)
      rw [show (m - 1 + 1).toNat = m.toNat by omega] at hMm
      refine w_skip ?_
      refine w_block ?_
      refine w_reg ?_
      refine wr_y rfl (y_move rfl) ?_
      refine wr_y rfl (y_move rfl) ?_
      refine wr_y rfl (y_subI rfl rfl (by omega)) ?_
      refine wr_y rfl (y_index1 Tryz.underlying24 sz3 rfl rfl (rdr 0 rfl) (by omega) (by omega)) ?_
      refine wr_y rfl (y_ldI Tryz.underlying3 rfl rfl (rdr 0 rfl) (by omega) (by omega)) ?_
      refine wr_y rfl (y_assign rfl) ?_
      refine wr_nil ?_
      exact ⟨rd L (m - 1), (hK.step (by rw [← lt_rd, ← lt_rd]; exact hst) hMm), (by have := hMm.bd; omega), (Sub.cons rfl (Sub.cons rfl (Sub.cons rfl (Sub.cons rfl Sub.nil)))), fun _ h => h⟩
    ·
      refine w_exit ?_
      refine w_seq ?_
      refine w_seq ?_
      refine w_regd mixed ?_
      refine wd_y 0 rfl (by kernel_rfl) rfl (y_move rfl) ?_
      refine wd_y 1 rfl (by kernel_rfl) rfl (y_move rfl) ?_
      refine wd_y 2 rfl (by kernel_rfl) rfl (y_index1 Tryz.underlying23 sz5 rfl rfl (h_u.c _) (by omega) (by omega)) ?_
      refine wd_y 3 rfl (by kernel_rfl) rfl (y_ldI Tryz.underlying5 rfl rfl (h_u.c _) (by omega) (by omega)) ?_
      refine wd_y 4 rfl (by kernel_rfl) rfl (y_move rfl) ?_
      refine wd_y 5 rfl (by kernel_rfl) rfl (y_move rfl) ?_
      refine wd_y 6 rfl (by kernel_rfl) rfl (y_index1 Tryz.underlying23 sz5 rfl rfl (h_u.c _) (by omega) (by omega)) ?_
      refine wd_y 7 rfl (by kernel_rfl) rfl (y_ldI Tryz.underlying5 rfl rfl (h_u.c _) (by omega) (by omega)) ?_
      refine wd_y 8 rfl (by kernel_rfl) rfl (y_eq rfl rfl) ?_
      refine wd_nil (by kernel_rfl) ?_
      refine w_if rfl (fun hc4 => ?_) (fun hc4 => ?_)
      ·
        have hmb := hK.hit (by rw [← lt_rd, ← lt_rd]; exact hc4.symm)
        refine w_reg ?_
        refine wr_y rfl (y_move rfl) ?_
        refine wr_y rfl (y_addI rfl rfl (by omega)) ?_
        refine wr_y rfl (y_assign rfl) ?_
        refine wr_nil ?_
        refine w_reg ?_
        refine wr_y rfl (y_move rfl) ?_
        refine wr_y rfl (y_move rfl) ?_
        refine wr_y rfl (y_move rfl) ?_
        refine wr_y rfl (y_index1 Tryz.underlying24 sz3 rfl rfl (rdr 0 rfl) (by omega) (by omega)) ?_
        refine wr_n (a_storeI 0 rfl sz3 rfl rfl (by omega) (by omega)) ?_
        rintro _ _ rfl
        refine wr_rows (R1 := [⟨3, 1, (some ⟨g_1, 0, none⟩), u.length, u.length, ints .i64 (upd L i (m + 1)), false⟩]) rfl ?_
        refine wr_nil ?_
        refine w_reg ?_
        refine wr_y rfl (y_move rfl) ?_
        refine wr_y rfl (y_addI rfl rfl (by omega)) ?_
        refine wr_y rfl (y_assign rfl) ?_
        refine wr_nil ?_
        exact ⟨i + 1, m + 1, upd L i (m + 1), ⟨(by omega), (by omega), (by rw [upd_length]; exact hLl), (bord_step hi1 (by omega) hLl hM hmb), (by rw [show (i + 1).toNat = i.toNat + 1 by omega]; exact hmb)⟩, (by omega), (Sub.cons rfl (Sub.cons rfl (Sub.cons rfl (Sub.cons rfl Sub.nil)))), fun _ h => h⟩
      ·
        have hmb := hK.miss (by omega) (by rw [← lt_rd, ← lt_rd]; exact fun e => hc4 e.symm)
        refine w_skip ?_
        refine w_reg ?_
        refine wr_y rfl (y_move rfl) ?_
        refine wr_y rfl (y_move rfl) ?_
        refine wr_y rfl (y_move rfl) ?_
        refine wr_y rfl (y_index1 Tryz.underlying24 sz3 rfl rfl (rdr 0 rfl) (by omega) (by omega)) ?_
        refine wr_n (a_storeI 0 rfl sz3 rfl rfl (by omega) (by omega)) ?_
        rintro _ _ rfl
        refine wr_rows (R1 := [⟨3, 1, (some ⟨g_1, 0, none⟩), u.length, u.length, ints .i64 (upd L i m), false⟩]) rfl ?_
        refine wr_nil ?_
        refine w_reg ?_
        refine wr_y rfl (y_move rfl) ?_
        refine wr_y rfl (y_addI rfl rfl (by omega)) ?_
        refine wr_y rfl (y_assign rfl) ?_
        refine wr_nil ?_
        exact ⟨i + 1, m, upd L i m, ⟨(by omega), (by omega), (by rw [upd_length]; exact hLl), (bord_step hi1 (by omega) hLl hM hmb), (by rw [show (i + 1).toNat = i.toNat + 1 by omega]; exact hmb)⟩, (by omega), (Sub.cons rfl (Sub.cons rfl (Sub.cons rfl (Sub.cons rfl Sub.nil)))), fun _ h => h⟩
  ·
    refine w_exit ?_
    refine w_seq ?_
    refine w_reg ?_
    refine wr_y rfl (y_move rfl) ?_
    refine wr_y rfl (y_assign rfl) ?_
    refine wr_nil ?_
    refine w_retR (R1 := [⟨3, 1, (some ⟨g_1, 0, none⟩), u.length, u.length, ints .i64 L, false⟩]) (fun _ h => h.sel [0] (by decide) rfl) ?_
    refine ⟨_, rfl, ?_⟩
    exact ⟨_, _, L, by rw [hLl], hLl, fun j h0 h1 _ => hM j h0 (by omega) h1, by rw [hLl]⟩

set_option maxRecDepth 100000 in
theorem leastP_ct {w : World} {A_u : Option Addr} {n_u c_u : Nat} {u : List Int} (h_u : Rd w A_u n_u c_u 1 (ints .u8 u)) (hN : u.length ≤ 1000000) :
    Ct Tryz.prog 89 #[.slice A_u n_u c_u] w.heap.size w [] (fun v R' => v = .int .i64 (lp u)) := by
  obtain rfl := h_u.lenI
  refine fn1 Tryz.func89 rfl rfl rfl ?_
  have m_u := h_u.max
  refine w_seq ?_
  refine w_reg ?_
  refine wr_y rfl (y_assign rfl) ?_
  refine wr_nil ?_
  refine w_seq ?_
  refine w_seq ?_
  refine w_reg ?_
  refine wr_y rfl (y_move rfl) ?_
  refine wr_y rfl (y_len Tryz.underlying23 rfl) ?_
  refine wr_y rfl (y_eq rfl rfl) ?_
  refine wr_nil ?_
  refine w_if rfl (fun hc1 => ?_) (fun hc1 => ?_)
  ·
    refine w_seq ?_
    refine w_reg ?_
    refine wr_y rfl (y_assign rfl) ?_
    refine wr_nil ?_
    refine w_ret ?_
    refine ⟨_, rfl, ?_⟩
    exact congrArg (Value.int .i64) (by rw [List.eq_nil_of_length_eq_zero (show u.length = 0 by omega)]; rfl)
  ·
    refine w_skip ?_
    refine w_seq ?_
    refine w_reg ?_
    refine wr_y rfl (y_move rfl) ?_
    refine wr_y rfl (y_len Tryz.underlying23 rfl) ?_
    refine wr_y rfl (y_move rfl) ?_
    refine wr_a rfl (a_callF en122 rfl (Ct.fresh (fun w hw => borders_ct ((h_u.c _) w hw) (by first | assumption | omega | decide)))) ?_
    rintro _ _ ⟨_, rfl, A_1, c_2, L_3, rfl, hLl, hLM, rfl⟩
    refine wr_y rfl (y_move rfl) ?_
    refine wr_y rfl (y_len Tryz.underlying23 rfl) ?_
    refine wr_y rfl (y_subI rfl rfl (by omega)) ?_
    refine wr_y rfl (y_index1 Tryz.underlying24 sz3 rfl rfl (rdr 0 rfl) (by omega) (by omega)) ?_
    refine wr_y rfl (y_ldI Tryz.underlying3 rfl rfl (rdr 0 rfl) (by omega) (by omega)) ?_
    refine wr_y rfl (y_subI rfl rfl (by have hq := (hLM (u.length - 1) (by omega) (by omega) (by omega)).bd; omega)) ?_
    refine wr_y rfl (y_assign rfl) ?_
    refine wr_nil ?_
    refine w_retR (R1 := []) (fun _ h => h.sel [] (by decide) rfl) ?_
    refine ⟨_, rfl, ?_⟩
    exact congrArg (Value.int .i64) (MB.least (by omega) (by have := hLM (u.length - 1) (by omega) (by omega) (by omega); rw [show ((u.length : Int) - 1 + 1).toNat = u.length by omega] at this; exact this))

set_option maxRecDepth 100000 in
theorem rootP_ct {w : World} {A_u : Option Addr} {n_u c_u : Nat} {u : List Int} (h_u : Rd w A_u n_u c_u 1 (ints .u8 u)) (hN : u.length ≤ 1000000) :
    Ct Tryz.prog 61 #[.slice A_u n_u c_u] w.heap.size w [] (fun v R' => ∃ (A : Option Addr) (c : Nat), v = .tuple #[.slice A (rootW u).length c, .int .i64 (timesW u)] ∧ R' = [⟨5, 1, A, (rootW u).length, c, ints .u8 (rootW u), false⟩]) := by
  obtain rfl := h_u.lenI
  refine fn2 Tryz.func61 rfl rfl rfl ?_
  have m_u := h_u.max
  refine w_seq ?_
  refine w_reg ?_
  refine wr_sub (R1 := [⟨5, 1, none, 0, 0, ints .u8 ([]), false⟩]) (Sub.refl _) (fun _ h => h.nil 5 1) ?_
  refine wr_y rfl (y_assign rfl) ?_
  refine wr_y rfl (y_assign rfl) ?_
  refine wr_nil ?_
  refine w_seq ?_
  refine w_seq ?_
  refine w_reg ?_
  refine wr_y rfl (y_move rfl) ?_
  refine wr_y rfl (y_len Tryz.underlying23 rfl) ?_
  refine wr_y rfl (y_eq rfl rfl) ?_
  refine wr_nil ?_
  refine w_if rfl (fun hc1 => ?_) (fun hc1 => ?_)
  ·
    refine w_seq ?_
    refine w_reg ?_
    refine wr_y rfl (y_assign rfl) ?_
    refine wr_y rfl (y_assign rfl) ?_
    refine wr_nil ?_
    refine w_retR (R1 := [⟨5, 1, none, 0, 0, ints .u8 ([]), false⟩]) (fun _ h => h.sel [0] (by decide) rfl) ?_
    refine ⟨_, _, rfl, rfl, ?_⟩
    obtain rfl := List.eq_nil_of_length_eq_zero (show u.length = 0 by omega)
    exact ⟨_, _, rfl, rfl⟩
  ·
    have hlp := lp_range (u := u) (by omega)
    refine w_skip ?_
    refine w_seq ?_
    refine w_reg ?_
    refine wr_y rfl (y_move rfl) ?_
    refine wr_a rfl (a_callF en89 rfl (Ct.quiet (fun w hw => leastP_ct ((h_u.c _) w hw) (by first | assumption | omega | decide)))) ?_
    rintro _ _ ⟨rfl, rfl⟩
    refine wr_y rfl (y_assign rfl) ?_
    refine wr_nil ?_
    refine w_seq ?_
    refine w_seq ?_
    refine w_reg ?_
    refine wr_y rfl (y_move rfl) ?_
    refine wr_y rfl (y_len Tryz.underlying23 rfl) ?_
    refine wr_y rfl (y_move rfl) ?_
    refine wr_y rfl (y_rem rfl rfl (by omega) (by omega)) ?_
    refine wr_y rfl (y_ne rfl rfl) ?_
    refine wr_nil ?_
    refine w_if rfl (fun hc2 => ?_) (fun hc2 => ?_)
    ·
      refine w_reg ?_
      refine wr_y rfl (y_move rfl) ?_
      refine wr_y rfl (y_len Tryz.underlying23 rfl) ?_
      refine wr_y rfl (y_assign rfl) ?_
      refine wr_nil ?_
      refine w_seq ?_
      refine w_regd mixed ?_
      refine wd_y 0 rfl (by kernel_rfl) rfl (y_move rfl) ?_
      refine wd_y 1 rfl (by kernel_rfl) rfl (y_move rfl) ?_
      refine wd_y 2 rfl (by kernel_rfl) rfl (y_sliceTo Tryz.underlying23 sz5 rfl rfl (h_u.c _) (by omega) (by omega)) ?_
      refine wd_y 4 rfl (by kernel_rfl) rfl (y_move rfl) ?_
      refine wd_y 5 rfl (by kernel_rfl) rfl (y_len Tryz.underlying23 rfl) ?_
      refine wd_y 6 rfl (by kernel_rfl) rfl (y_move rfl) ?_
      refine wd_y 7 rfl (by kernel_rfl) rfl (y_quoI rfl rfl (by omega) (by omega) (by omega)) ?_
      refine wd_a 3 rfl (by kernel_rfl) rfl (a_callF en90 rfl (Ct.fresh (fun w hw => cloneB_ct ((RdC.toI (h_u.c _) (by omega)) w hw) (by rw [List.length_take]; omega)))) ?_
      rintro _ _ ⟨_, rfl, A_1, c_2, rfl, rfl⟩
      refine ⟨.inr fun _ h => h.right (R' := [_]), ?_⟩
      refine wd_y 8 rfl (by kernel_rfl) rfl (y_assign rfl) ?_
      refine wd_y 9 rfl (by kernel_rfl) rfl (y_assign rfl) ?_
      refine wd_nil (by kernel_rfl) ?_
      refine w_retR (R1 := [⟨5, 1, A_1, ((u).take (((u.length : Nat) : Int)).toNat).length, c_2, ints .u8 ((u).take (((u.length : Nat) : Int)).toNat), false⟩]) (fun _ h => h.sel [0] (by decide) rfl) ?_
      refine ⟨_, _, rfl, rfl, ?_⟩
      have e : rl u = u.length := by unfold rl; rw [if_pos (by assumption)]
      unfold rootW timesW
      rw [e]
      exact ⟨_, _, rfl, rfl⟩
    ·
      refine w_skip ?_
      refine w_seq ?_
      refine w_regd mixed ?_
      refine wd_y 0 rfl (by kernel_rfl) rfl (y_move rfl) ?_
      refine wd_y 1 rfl (by kernel_rfl) rfl (y_move rfl) ?_
      refine wd_y 2 rfl (by kernel_rfl) rfl (y_sliceTo Tryz.underlying23 sz5 rfl rfl (h_u.c _) (by omega) (by omega)) ?_
      refine wd_y 4 rfl (by kernel_rfl) rfl (y_move rfl) ?_
      refine wd_y 5 rfl (by kernel_rfl) rfl (y_len Tryz.underlying23 rfl) ?_
      refine wd_y 6 rfl (by kernel_rfl) rfl (y_move rfl) ?_
      refine wd_y 7 rfl (by kernel_rfl) rfl (y_quoI rfl rfl (by omega) (by omega) (by omega)) ?_
      refine wd_a 3 rfl (by kernel_rfl) rfl (a_callF en90 rfl (Ct.fresh (fun w hw => cloneB_ct ((RdC.toI (h_u.c _) (by omega)) w hw) (by rw [List.length_take]; omega)))) ?_
      rintro _ _ ⟨_, rfl, A_4, c_5, rfl, rfl⟩
      refine ⟨.inr fun _ h => h.right (R' := [_]), ?_⟩
      refine wd_y 8 rfl (by kernel_rfl) rfl (y_assign rfl) ?_
      refine wd_y 9 rfl (by kernel_rfl) rfl (y_assign rfl) ?_
      refine wd_nil (by kernel_rfl) ?_
      refine w_retR (R1 := [⟨5, 1, A_4, ((u).take (lp u).toNat).length, c_5, ints .u8 ((u).take (lp u).toNat), false⟩]) (fun _ h => h.sel [0] (by decide) rfl) ?_
      refine ⟨_, _, rfl, rfl, ?_⟩
      have e : rl u = lp u := by unfold rl; rw [if_neg (by assumption)]
      unfold rootW timesW
      rw [e]
      exact ⟨_, _, rfl, rfl⟩

end Go.Proofs.YtdfcnalkdlifiaaGreat

/-! ## S1 -/
namespace Go.Proofs
open Go.Shelf
def Tryz.laysSlF06_f55_ren : Go.Shelf.Ren := ⟨fun | 6 => 55 | 15 => 70 | 14 => 87 | 28 => 104 | 29 => 105 | 20 => 114 | 21 => 115 | 22 => 116 | 23 => 117 | 24 => 118 | 25 => 119 | 26 => 120 | 27 => 121 | 46 => 141 | 47 => 133 | 48 => 134 | 49 => 142 | 50 => 143 | 57 => 157 | n => n, fun | 22 => 43 | 24 => 45 | 25 => 107 | 3 => 3 | 39 => 79 | 0 => 0 | 53 => 115 | 55 => 118 | 4 => 4 | 46 => 134 | 45 => 133 | 50 => 138 | 5 => 5 | 9 => 9 | 66 => 157 | 70 => 161 | 76 => 168 | 77 => 169 | n => n, fun | n => n⟩
theorem Tryz.laysSlF06_f55 : Go.Proofs.SlLaysF0.n6 Tryz.prog Tryz.laysSlF06_f55_ren := {
  mixed := by kernel_rfl
  f6 := ⟨Tryz.f55.name, by decide, Tryz.func55.trans (congrArg some (by kernel_rfl))⟩
  f14 := ⟨Tryz.f87.name, by decide, Tryz.func87.trans (congrArg some (by kernel_rfl))⟩
  f15 := Tryz.func70.trans (congrArg some (by kernel_rfl))
  f20 := ⟨Tryz.f114.name, by decide, Tryz.func114.trans (congrArg some (by kernel_rfl))⟩
  f21 := ⟨Tryz.f115.name, by decide, Tryz.func115.trans (congrArg some (by kernel_rfl))⟩
  f22 := ⟨Tryz.f116.name, by decide, Tryz.func116.trans (congrArg some (by kernel_rfl))⟩
  f23 := ⟨Tryz.f117.name, by decide, Tryz.func117.trans (congrArg some (by kernel_rfl))⟩
  f24 := ⟨Tryz.f118.name, by decide, Tryz.func118.trans (congrArg some (by kernel_rfl))⟩
  f25 := ⟨Tryz.f119.name, by decide, Tryz.func119.trans (congrArg some (by kernel_rfl))⟩
  f26 := ⟨Tryz.f120.name, by decide, Tryz.func120.trans (congrArg some (by kernel_rfl))⟩
  f27 := ⟨Tryz.f121.name, by decide, Tryz.func121.trans (congrArg some (by kernel_rfl))⟩
  f28 := Tryz.func104.trans (congrArg some (by kernel_rfl))
  f29 := Tryz.func105.trans (congrArg some (by kernel_rfl))
  f46 := ⟨Tryz.f141.name, by decide, Tryz.func141.trans (congrArg some (by kernel_rfl))⟩
  f47 := Tryz.func133.trans (congrArg some (by kernel_rfl))
  f48 := Tryz.func134.trans (congrArg some (by kernel_rfl))
  f49 := ⟨Tryz.f142.name, by decide, Tryz.func142.trans (congrArg some (by kernel_rfl))⟩
  f50 := ⟨Tryz.f143.name, by decide, Tryz.func143.trans (congrArg some (by kernel_rfl))⟩
  f57 := ⟨Tryz.f157.name, by decide, Tryz.func157.trans (congrArg some (by kernel_rfl))⟩
  t0 := Tryz.underlying0
  a0 := Tryz.isAgg0
  z0 := Tryz.sizeOf0
  v0 := Tryz.zeroValue0
  t3 := Tryz.underlying3
  a3 := Tryz.isAgg3
  z3 := Tryz.sizeOf3
  v3 := Tryz.zeroValue3
  t4 := Tryz.underlying4
  a4 := Tryz.isAgg4
  z4 := Tryz.sizeOf4
  v4 := Tryz.zeroValue4
  t5 := Tryz.underlying5
  a5 := Tryz.isAgg5
  z5 := Tryz.sizeOf5
  v5 := Tryz.zeroValue5
  t9 := Tryz.underlying9
  a9 := Tryz.isAgg9
  z9 := Tryz.sizeOf9
  v9 := Tryz.zeroValue9
  t22 := Tryz.underlying43
  a22 := Tryz.isAgg43
  z22 := Tryz.sizeOf43
  v22 := Tryz.zeroValue43
  t25 := Tryz.underlying107
  a25 := Tryz.isAgg107
  z25 := Tryz.sizeOf107
  v25 := Tryz.zeroValue107
  t39 := Tryz.underlying79
  a39 := Tryz.isAgg79
  z39 := Tryz.sizeOf79
  v39 := Tryz.zeroValue79
  t45 := Tryz.underlying133
  a45 := Tryz.isAgg133
  z45 := Tryz.sizeOf133
  v45 := Tryz.zeroValue133
  t46 := Tryz.underlying134
  a46 := Tryz.isAgg134
  z46 := Tryz.sizeOf134
  v46 := Tryz.zeroValue134
  t50 := Tryz.underlying138
  a50 := Tryz.isAgg138
  z50 := Tryz.sizeOf138
  v50 := Tryz.zeroValue138
  t53 := Tryz.underlying115
  a53 := Tryz.isAgg115
  z53 := Tryz.sizeOf115
  v53 := Tryz.zeroValue115
  t55 := Tryz.underlying118
  a55 := Tryz.isAgg118
  z55 := Tryz.sizeOf118
  v55 := Tryz.zeroValue118
  t66 := Tryz.underlying157
  a66 := Tryz.isAgg157
  z66 := Tryz.sizeOf157
  v66 := Tryz.zeroValue157
  t70 := Tryz.underlying161
  a70 := Tryz.isAgg161
  z70 := Tryz.sizeOf161
  v70 := Tryz.zeroValue161
  t76 := Tryz.underlying168
  a76 := Tryz.isAgg168
  z76 := Tryz.sizeOf168
  v76 := Tryz.zeroValue168
  t77 := Tryz.underlying169
  a77 := Tryz.isAgg169
  z77 := Tryz.sizeOf169
  v77 := Tryz.zeroValue169 }
open Go.RowKit Go.Lib Go.Sort in
/-- **slices.SortFunc, IN THE DOCUMENTATION's OWN TERMS: A PERMUTATION OF WHAT THE ROW HELD, SORTED BY 'cmp(a, b) < 0'.** Which of two equals comes first is left open ("The sort is not guaranteed to be stable"). (LAID AT THE INSTANCE 'slices.SortFunc[[][2]int,[2]int]': no walk: one application.) -/
theorem Tryz.slices_SortFunc {α : Type} [Inhabited α] (k : Nat) (aE : ∀ w, (isAgg 45).run Tryz.prog w = .ok true w) (zE : ∀ w, (Go.sizeOf 45).run Tryz.prog w = .ok k w) (enc : α → List Value) (hk : ∀ x, (enc x).length = k) (h1 : ∀ x, ∀ v ∈ enc x, v.oneCell' = true) (cf : α → α → Int) (hO : SWO (ltOf cf)) (g : Nat) (cb : Array Value) (blk off cap : Nat) (d : Array α) (w : World) (eg : ∀ args w, (callFunc g args).run Tryz.prog w = .ok (.enter g args) w) (hcmp : CmpLays Tryz.prog g cb enc k cf blk off d.size w) (hH : HoldsK enc k w blk off d) (hblk : blk < w.heap.size) (hsz : d.size < 4611686018427387904) :
    Calls Tryz.prog 55 #[.slice (some ⟨blk, off, none⟩) d.size cap, .func (.func g) #[] cb] w fun e w' =>
      e = .returned (.tuple #[]) ∧ ∃ d' n os, PermIn 0 d.size d d' ∧ SortedIn (ltOf cf) 0 d.size d' ∧ w' = sortWorldK enc k w blk off n d' os := AnyQ.slices_SortFunc Tryz.laysSlF06_f55 k aE zE enc hk h1 cf hO g cb blk off cap d w eg hcmp hH hblk hsz
end Go.Proofs

