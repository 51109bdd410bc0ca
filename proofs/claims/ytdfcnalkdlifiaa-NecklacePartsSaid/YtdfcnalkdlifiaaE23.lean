/-
  Engine: drawn regions whose calls turn new rows alone: what has come up rests on the rows that were there. Own work.
-/
import Derived.Test.YtdfcnalkdlifiaaE15
namespace Go.Eng
open Go Go.RowKit
section
variable {P : Program} {n : Nd} {B : Nat} {w0 : World} {ops : Array Oper} {K : Env → List Row → Prop} {L : Env} {R Rc : List Row} {op : Op} {ty : TypeId} {pos : String} {aft : Array Edge}
/-- R: what is known; Rc: what has come up rests on. -/
def WDc (P : Program) (n : Nd) (B : Nat) (w0 : World) (ops : Array Oper) (K : Env → List Row → Prop) (fuel : Nat) (listed : Array Bool) (L : Env) (R Rc : List Row) : Prop :=
  ∀ a w (Q : Exit → Act → World → Prop), Sat n L a → Hp B w0 w R → (∀ w, Hp B w0 w R → Hp B w0 w Rc) → (∀ c a w, ¬ Q (.panic c) a w) → (∀ a' w' L' R', Sat n L' a' → Hp B w0 w' R' → K L' R' → Q .normal a' w') → wpAnyB P ops Q fuel (fun w => Hp B w0 w Rc) listed a w
def Turnc (P : Program) (n : Nd) (B : Nat) (w0 : World) (ops : Array Oper) (K : Env → List Row → Prop) (fuel : Nat) (listed : Array Bool) (L : Env) (R Rc : List Row) (i : Nat) : Prop :=
  ∀ a w (Q : Exit → Act → World → Prop), Sat n L a → Hp B w0 w R → (∀ w, Hp B w0 w R → Hp B w0 w Rc) → (∀ c a w, ¬ Q (.panic c) a w) → (∀ a' w' L' R', Sat n L' a' → Hp B w0 w' R' → K L' R' → Q .normal a' w') →
    wpOp P ops Q i (fun a' w' => ∃ S' : World → Prop, S' w' ∧ (barB ops listed i = true ∨ ∀ x, S' x → Hp B w0 x Rc) ∧ wpAnyB P ops Q fuel S' (listed.setIfInBounds i true) a' w') a w
theorem wd_c {fuel : Nat} {listed : Array Bool} (h : WDc P n B w0 ops K fuel listed L R R) : WD P n B w0 ops K fuel listed L R :=
  fun a w Q hs hp hpan hq => h a w Q hs hp (fun _ h => h) hpan hq
theorem cd_y {d : Nat} {v : Value} {fuel : Nat} {listed : Array Bool} (i : Nat) (hi : ops[i]? = some { dst := some d, op := op, type := ty, pos := pos, after := aft, guard := none }) (hc : chk ops listed i = true) (hn : Nat.blt d n = true)
    (hy : Yl P n B w0 op ty L Rc v) (h : WDc P n B w0 ops K fuel (listed.setIfInBounds i true) ((d, v) :: L) R Rc) : WDc P n B w0 ops K (fuel + 1) listed L R Rc := by
  intro a w Q hs hp hsub hpan hq
  simp only [chk, Bool.and_eq_true] at hc
  obtain ⟨⟨⟨h1, h2⟩, h3⟩, h4⟩ := hc
  refine wpAnyB_first hi (Region.noSelect_spec h1) (fun c a w hh => (hpan c _ w hh).elim) fuel _ listed a w h4 (Region.free_spec hi h2) (by simpa using h3) (.inl ⟨rfl, fun w hw => hy a w _ rfl rfl hs hw⟩) (hsub w hp) ?_
  exact h _ w Q (hs.put hn v) hp hsub hpan hq
theorem cd_nil {fuel : Nat} {listed : Array Bool} (hr : Region.ready .any ops listed = []) (h : K L R) : WDc P n B w0 ops K fuel listed L R Rc := by
  intro a w Q hs hp _ hpan hq
  cases fuel with
  | zero => exact ⟨hr, hq _ _ L R hs hp h⟩
  | succ fuel => exact ⟨fun _ => hq _ _ L R hs hp h, by rw [hr]; simp⟩
theorem c1_a {d : Nat} {Post : Value → List Row → Prop} {fuel : Nat} {listed : Array Bool} (i : Nat) (hi : ops[i]? = some { dst := some d, op := op, type := ty, pos := pos, after := aft, guard := none }) (hn : Nat.blt d n = true) (ha : Ac P n B w0 op ty L R Post)
    (h : ∀ v R', Post v R' → (∀ w, Hp B w0 w R' → Hp B w0 w Rc) ∧ WDc P n B w0 ops K fuel (listed.setIfInBounds i true) ((d, v) :: L) R' Rc) : Turnc P n B w0 ops K fuel listed L R Rc i := by
  intro a w Q hs hp hsub hpan hq
  unfold wpOp
  simp only [hi]
  rw [if_pos (by simp [Region.wanted])]
  refine .inl (ha a w _ _ Q rfl rfl hs hp fun v w' R' hp' hv => ?_)
  obtain ⟨h1, h2⟩ := h v R' hv
  exact ⟨fun w => Hp B w0 w Rc, h1 w' hp', .inr fun _ h => h, h2 _ w' Q (hs.put hn v) hp' h1 hpan hq⟩
theorem c1_n {Post : Value → List Row → Prop} {fuel : Nat} {listed : Array Bool} (i : Nat) (hi : ops[i]? = some { dst := none, op := op, type := ty, pos := pos, after := aft, guard := none }) (ha : Ac P n B w0 op ty L R Post)
    (h : ∀ v R', Post v R' → (∀ w, Hp B w0 w R' → Hp B w0 w Rc) ∧ WDc P n B w0 ops K fuel (listed.setIfInBounds i true) L R' Rc) : Turnc P n B w0 ops K fuel listed L R Rc i := by
  intro a w Q hs hp hsub hpan hq
  unfold wpOp
  simp only [hi]
  rw [if_pos (by simp [Region.wanted])]
  refine .inl (ha a w _ _ Q rfl rfl hs hp fun v w' R' hp' hv => ?_)
  obtain ⟨h1, h2⟩ := h v R' hv
  exact ⟨fun w => Hp B w0 w Rc, h1 w' hp', .inr fun _ h => h, h2 _ w' Q hs hp' h1 hpan hq⟩
theorem cd_one {fuel : Nat} {listed : Array Bool} (i : Nat) (hr : Region.ready .any ops listed = [i]) (hi : Turnc P n B w0 ops K fuel listed L R Rc i) : WDc P n B w0 ops K (fuel + 1) listed L R Rc := by
  intro a w Q hs hp hsub hpan hq
  refine ⟨fun h0 => absurd (hr ▸ h0) (by simp), fun k hk => ?_⟩
  rw [hr] at hk
  obtain rfl := List.mem_singleton.1 hk
  exact hi a w Q hs hp hsub hpan hq
theorem cd_two {fuel : Nat} {listed : Array Bool} (i j : Nat) (hr : Region.ready .any ops listed = [i, j]) (hi : Turnc P n B w0 ops K fuel listed L R Rc i) (hj : Turnc P n B w0 ops K fuel listed L R Rc j) : WDc P n B w0 ops K (fuel + 1) listed L R Rc := by
  intro a w Q hs hp hsub hpan hq
  refine ⟨fun h0 => absurd (hr ▸ h0) (by simp), fun k hk => ?_⟩
  rw [hr] at hk
  rcases List.mem_cons.1 hk with rfl | hk
  · exact hi a w Q hs hp hsub hpan hq
  · obtain rfl := List.mem_singleton.1 hk
    exact hj a w Q hs hp hsub hpan hq
theorem cd_as {fuel : Nat} {listed : Array Bool} {d : Nat} {u v : Value} (hu : u = v) (h : WDc P n B w0 ops K fuel listed ((d, v) :: L) R Rc) : WDc P n B w0 ops K fuel listed ((d, u) :: L) R Rc := by
  subst hu
  exact h
theorem cd_rows {fuel : Nat} {listed : Array Bool} {R1 : List Row} (hR : R = R1) (h : WDc P n B w0 ops K fuel listed L R1 Rc) : WDc P n B w0 ops K fuel listed L R Rc := by
  subst hR
  exact h
end
end Go.Eng
