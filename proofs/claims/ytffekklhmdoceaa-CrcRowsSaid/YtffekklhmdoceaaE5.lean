/-
  The engine's regions whose order is drawn: what only reads is taken first; what turns memory comes in the order that the region forces. Own work.
-/
import Derived.Test.YtffekklhmdoceaaE4
import Derived.OrdersHeld
namespace Go.Eng
open Go Go.RowKit
section
variable {P : Program} {ops : Array Oper} {Q : Exit → Act → World → Prop}
/-- Whoever comes up now waits for all that have come up. -/
def barB (ops : Array Oper) (listed : Array Bool) (i : Nat) : Bool :=
  (List.range ops.size).all fun k => !listed.getD k false || ((ops[i]?).map (·.after.any fun e => Region.binds .any e && Nat.beq e.on k)).getD false
def wpAnyB (P : Program) (ops : Array Oper) (Q : Exit → Act → World → Prop) : Nat → (World → Prop) → Array Bool → Act → World → Prop
  | 0, _, listed, a, w => Region.ready .any ops listed = [] ∧ Q .normal a w
  | fuel + 1, S, listed, a, w => (Region.ready .any ops listed = [] → Q .normal a w) ∧
    ∀ i ∈ Region.ready .any ops listed, wpOp P ops Q i (fun a' w' => ∃ S' : World → Prop, S' w' ∧ (barB ops listed i = true ∨ ∀ x, S' x → S x) ∧ wpAnyB P ops Q fuel S' (listed.setIfInBounds i true) a' w') a w
theorem wpAny_of_B : ∀ (fuel : Nat) (S : World → Prop) (listed : Array Bool) (a : Act) (w : World), wpAnyB P ops Q fuel S listed a w → wpAny P .any ops Q fuel listed a w
  | 0, _, _, _, _, h => h
  | fuel + 1, _, _, _, _, h => ⟨h.1, fun i hi => wpOp_mono (fun a' w' ⟨S', _, _, h'⟩ => wpAny_of_B fuel S' _ a' w' h') (h.2 i hi)⟩
theorem YieldsIf.shrink {S S' : World → Prop} {o : Oper} {v : Value} {a : Act} (h : YieldsIf P ops S o v a) (hs : ∀ x, S' x → S x) : YieldsIf P ops S' o v a :=
  h.imp (fun ⟨hw, hv⟩ => ⟨hw, fun w hw' => hv w (hs w hw')⟩) id
theorem wpAnyB_first {i : Nat} {oi : Oper} {v : Value} (hi : ops[i]? = some oi) (hsel : ∀ (j : Nat) (o : Oper) cs b, ops[j]? = some o → o.op ≠ .select cs b)
    (hQ : ∀ c a w, Q (.panic c) (a.put oi.dst v) w → Q (.panic c) a w) :
    ∀ (fuel : Nat) (S : World → Prop) (listed : Array Bool) (a : Act) (w : World),
      (∀ j oj, ops[j]? = some oj → j ≠ i → listed.getD j true = false → (∀ e ∈ oj.after, Region.binds .any e = true → e.on ≠ i) → oi.apart ops oj = true) →
      i ∈ Region.ready .any ops listed → YieldsIf P ops S oi v a → S w →
      wpAnyB P ops Q fuel S (listed.setIfInBounds i true) (a.put oi.dst v) w → wpAnyB P ops Q (fuel + 1) S listed a w := by
  intro fuel
  induction fuel with
  | zero =>
    intro S listed a w _ hr hy hS H
    refine ⟨fun h => (by rw [h] at hr; cases hr), fun j hj => ?_⟩
    by_cases hji : j = i
    · subst hji; exact hy.wpOp hi hS ⟨S, hS, .inr fun _ h => h, H⟩
    · have := ready_mono hj hji
      rw [H.1] at this
      cases this
  | succ fuel ih =>
    intro S listed a w hfree hr hy hS H
    refine ⟨fun h => (by rw [h] at hr; cases hr), fun j hj => ?_⟩
    by_cases hji : j = i
    · subst hji; exact hy.wpOp hi hS ⟨S, hS, .inr fun _ h => h, H⟩
    · have h1 := H.2 j (ready_mono hj hji)
      obtain ⟨hjun, oj, hoj, hall⟩ := mem_ready.1 hj
      have hilt : i < listed.size := by
        have h0 := (mem_ready.1 hr).1
        rcases Nat.lt_or_ge i listed.size with h' | h'
        · exact h'
        · simp [Array.getElem?_eq_none h'] at h0
      have hnot : ∀ e ∈ oj.after, Region.binds .any e = true → e.on ≠ i := fun e he hb heq => by
        have h1 := hall e he hb
        have h0 := (mem_ready.1 hr).1
        rw [heq] at h1
        simp [hilt] at h0 h1; rw [h0] at h1; cases h1
      have hnbar : barB ops (listed.setIfInBounds i true) j = false := by
        have hio : i < ops.size := (Array.getElem?_eq_some_iff.1 hi).1
        unfold barB
        rw [List.all_eq_false]
        refine ⟨i, List.mem_range.2 hio, ?_⟩
        simp only [hoj, Option.map_some, Option.getD_some]
        have e1 : (listed.setIfInBounds i true).getD i false = true := by simp [hilt]
        rw [e1]
        simp only [Bool.not_true, Bool.false_or, Bool.not_eq_true]
        rw [Array.any_eq_false]
        intro q hq
        have he : oj.after[q] ∈ oj.after := Array.getElem_mem hq
        cases hb : Region.binds .any oj.after[q] with
        | false => simp
        | true =>
          have := hnot _ he hb
          simp only [Bool.true_and]
          intro hbq
          exact this (Nat.eq_of_beq_eq_true hbq)
      have h2 := wpOp_putIf hoj (hfree j oj hoj hji hjun hnot) (fun cs b => hsel i oi cs b hi) (fun cs b => hsel j oj cs b hoj) hQ hy h1
      have hfree' : ∀ k ok, ops[k]? = some ok → k ≠ i → (listed.setIfInBounds j true).getD k true = false →
          (∀ e ∈ ok.after, Region.binds .any e = true → e.on ≠ i) → oi.apart ops ok = true := fun k ok hk hki hun hno => by
        refine hfree k ok hk hki ?_ hno
        by_cases hjk : j = k
        · subst hjk; exact hjun
        · rw [getD_set_ne true hjk] at hun; exact hun
      refine wpOp_mono (fun a' w' ⟨hy', S', hS', hsub, hB⟩ => ?_) h2
      have hsub' : ∀ x, S' x → S x := by
        rcases hsub with hb | hs
        · rw [hnbar] at hb; cases hb
        · exact hs
      refine ⟨S', hS', .inr hsub', ih S' (listed.setIfInBounds j true) a' w' hfree' (ready_mono hr (Ne.symm hji)) (YieldsIf.shrink hy' hsub') hS' ?_⟩
      rw [Array.setIfInBounds_comm _ _ hji]
      exact hB
end
section
variable {P : Program} {n B : Nat} {w0 : World} {ops : Array Oper} {K : Env → List Row → Prop} {L : Env} {R : List Row} {op : Op} {ty : TypeId} {pos : String} {aft : Array Edge}
def WD (P : Program) (n B : Nat) (w0 : World) (ops : Array Oper) (K : Env → List Row → Prop) (fuel : Nat) (listed : Array Bool) (L : Env) (R : List Row) : Prop :=
  ∀ a w (Q : Exit → Act → World → Prop), Sat n L a → Hp B w0 w R → (∀ c a w, ¬ Q (.panic c) a w) → (∀ a' w' L' R', Sat n L' a' → Hp B w0 w' R' → K L' R' → Q .normal a' w') → wpAnyB P ops Q fuel (fun w => Hp B w0 w R) listed a w
theorem w_regd {id : Nat} {l : List Oper} {Q : PostC} (hm : P.follows .mixedOrders = true) (h : WD P n B w0 l.toArray Q.nrm l.toArray.size (Array.replicate l.toArray.size false) L R) : W P n B w0 (.region id l.toArray true) Q L R := by
  intro a w hs hp
  refine wp_region_any hm (wpAny_of_B _ _ _ _ _ (h a _ _ hs (hp.drawn _) (fun _ _ _ h => h) fun _ _ L' R' hs' hp' hk => ⟨L', R', hs', hp', hk⟩))
def chk (ops : Array Oper) (listed : Array Bool) (i : Nat) : Bool := Region.noSelect ops && Region.free .any ops listed i && (Region.ready .any ops listed).contains i
theorem wd_take {i : Nat} {d : Nat} {v : Value} {o : Oper} {fuel : Nat} {listed : Array Bool} (hi : ops[i]? = some o) (hd : o.dst = some d) (hc : chk ops listed i = true) (hn : Nat.blt d n = true)
    (hy : ∀ a, Sat n L a → YieldsIf P ops (fun w => Hp B w0 w R) o v a) (h : WD P n B w0 ops K fuel (listed.setIfInBounds i true) ((d, v) :: L) R) : WD P n B w0 ops K (fuel + 1) listed L R := by
  intro a w Q hs hp hpan hq
  simp only [chk, Bool.and_eq_true] at hc
  obtain ⟨⟨h1, h2⟩, h3⟩ := hc
  refine wpAnyB_first hi (Region.noSelect_spec h1) (fun c a w hh => (hpan c _ w hh).elim) fuel _ listed a w (Region.free_spec hi h2) (by simpa using h3) (hy a hs) hp ?_
  rw [hd]
  exact h _ w Q (hs.put hn v) hp hpan hq
theorem wd_y {d : Nat} {v : Value} {fuel : Nat} {listed : Array Bool} (i : Nat) (hi : ops[i]? = some { dst := some d, op := op, type := ty, pos := pos, after := aft, guard := none }) (hc : chk ops listed i = true) (hn : Nat.blt d n = true)
    (hy : Yl P n B w0 op ty L R v) (h : WD P n B w0 ops K fuel (listed.setIfInBounds i true) ((d, v) :: L) R) : WD P n B w0 ops K (fuel + 1) listed L R :=
  wd_take hi rfl hc hn (fun a hs => .inl ⟨rfl, fun w hw => hy a w _ rfl rfl hs hw⟩) h
theorem wd_yg {d j e : Nat} {want : Bool} {v : Value} {fuel : Nat} {listed : Array Bool} (i : Nat) (hi : ops[i]? = some { dst := some d, op := op, type := ty, pos := pos, after := aft, guard := some (j, want) }) (hc : chk ops listed i = true) (hn : Nat.blt d n = true)
    (hj : (ops[j]?).bind (·.dst) = some e) (hb : lk L e = some (.bool want)) (hy : Yl P n B w0 op ty L R v) (h : WD P n B w0 ops K fuel (listed.setIfInBounds i true) ((d, v) :: L) R) : WD P n B w0 ops K (fuel + 1) listed L R :=
  wd_take hi rfl hc hn (fun a hs => .inl ⟨by simp [Region.wanted, yielded_of hs hj hb], fun w hw => hy a w _ rfl rfl hs hw⟩) h
theorem wd_no {d j e : Nat} {want b : Bool} {fuel : Nat} {listed : Array Bool} (i : Nat) (hi : ops[i]? = some { dst := some d, op := op, type := ty, pos := pos, after := aft, guard := some (j, want) }) (hc : chk ops listed i = true) (hn : Nat.blt d n = true)
    (hj : (ops[j]?).bind (·.dst) = some e) (hb : lk L e = some (.bool b)) (hne : (b == want) = false) (h : WD P n B w0 ops K fuel (listed.setIfInBounds i true) ((d, undef) :: L) R) : WD P n B w0 ops K (fuel + 1) listed L R :=
  wd_take hi rfl hc hn (fun a hs => .inr ⟨by simp only [Region.wanted, yielded_of hs hj hb]; cases b <;> cases want <;> simp_all, rfl⟩) h
theorem wd_nou {d j e : Nat} {want : Bool} {fuel : Nat} {listed : Array Bool} (i : Nat) (hi : ops[i]? = some { dst := some d, op := op, type := ty, pos := pos, after := aft, guard := some (j, want) }) (hc : chk ops listed i = true) (hn : Nat.blt d n = true)
    (hj : (ops[j]?).bind (·.dst) = some e) (hb : lk L e = some undef) (h : WD P n B w0 ops K fuel (listed.setIfInBounds i true) ((d, undef) :: L) R) : WD P n B w0 ops K (fuel + 1) listed L R :=
  wd_take hi rfl hc hn (fun a hs => .inr ⟨by simp [Region.wanted, yielded_undef hs hj hb], rfl⟩) h
theorem wd_nil {fuel : Nat} {listed : Array Bool} (hr : Region.ready .any ops listed = []) (h : K L R) : WD P n B w0 ops K fuel listed L R := by
  intro a w Q hs hp hpan hq
  cases fuel with
  | zero => exact ⟨hr, hq _ _ L R hs hp h⟩
  | succ fuel => exact ⟨fun _ => hq _ _ L R hs hp h, by rw [hr]; simp⟩
/-- One that may turn memory: at its turn it is the only one that may come up. -/
theorem wd_act {i : Nat} {o : Oper} {Post : Value → List Row → Prop} {fuel : Nat} {listed : Array Bool} (hi : ops[i]? = some o) (hr : Region.ready .any ops listed = [i]) (hg : ∀ a, Sat n L a → Region.wanted o (yielded ops a.tmps) = true) (ha : Ac P n B w0 o.op o.type L R Post)
    (hn : ∀ v a, Sat n L a → Sat n (match o.dst with | some d => (d, v) :: L | none => L) (a.put o.dst v))
    (h : ∀ v R', Post v R' → (barB ops listed i = true ∨ ∀ w, Hp B w0 w R' → Hp B w0 w R) ∧ WD P n B w0 ops K fuel (listed.setIfInBounds i true) (match o.dst with | some d => (d, v) :: L | none => L) R') : WD P n B w0 ops K (fuel + 1) listed L R := by
  intro a w Q hs hp hpan hq
  refine ⟨fun h0 => absurd (hr ▸ h0) (by simp), fun j hj => ?_⟩
  rw [hr] at hj
  obtain rfl := List.mem_singleton.1 hj
  unfold wpOp
  simp only [hi, hg a hs, if_true]
  refine .inl (ha a w o _ Q rfl rfl hs hp fun v w' R' hp' hv => ?_)
  obtain ⟨h1, h2⟩ := h v R' hv
  exact ⟨fun w => Hp B w0 w R', hp', h1, h2 _ w' Q (hn v a hs) hp' hpan hq⟩
theorem wd_a {d : Nat} {Post : Value → List Row → Prop} {fuel : Nat} {listed : Array Bool} (i : Nat) (hi : ops[i]? = some { dst := some d, op := op, type := ty, pos := pos, after := aft, guard := none }) (hr : Region.ready .any ops listed = [i]) (hn : Nat.blt d n = true) (ha : Ac P n B w0 op ty L R Post)
    (h : ∀ v R', Post v R' → (barB ops listed i = true ∨ ∀ w, Hp B w0 w R' → Hp B w0 w R) ∧ WD P n B w0 ops K fuel (listed.setIfInBounds i true) ((d, v) :: L) R') : WD P n B w0 ops K (fuel + 1) listed L R :=
  wd_act hi hr (fun _ _ => rfl) ha (fun v _ hs => hs.put hn v) h
theorem wd_ag {d j e : Nat} {want : Bool} {Post : Value → List Row → Prop} {fuel : Nat} {listed : Array Bool} (i : Nat) (hi : ops[i]? = some { dst := some d, op := op, type := ty, pos := pos, after := aft, guard := some (j, want) }) (hr : Region.ready .any ops listed = [i]) (hn : Nat.blt d n = true)
    (hj : (ops[j]?).bind (·.dst) = some e) (hb : lk L e = some (.bool want)) (ha : Ac P n B w0 op ty L R Post)
    (h : ∀ v R', Post v R' → (barB ops listed i = true ∨ ∀ w, Hp B w0 w R' → Hp B w0 w R) ∧ WD P n B w0 ops K fuel (listed.setIfInBounds i true) ((d, v) :: L) R') : WD P n B w0 ops K (fuel + 1) listed L R :=
  wd_act hi hr (fun a hs => by simp [Region.wanted, yielded_of hs hj hb]) ha (fun v _ hs => hs.put hn v) h
theorem wd_n {Post : Value → List Row → Prop} {fuel : Nat} {listed : Array Bool} (i : Nat) (hi : ops[i]? = some { dst := none, op := op, type := ty, pos := pos, after := aft, guard := none }) (hr : Region.ready .any ops listed = [i]) (ha : Ac P n B w0 op ty L R Post)
    (h : ∀ v R', Post v R' → (barB ops listed i = true ∨ ∀ w, Hp B w0 w R' → Hp B w0 w R) ∧ WD P n B w0 ops K fuel (listed.setIfInBounds i true) L R') : WD P n B w0 ops K (fuel + 1) listed L R :=
  wd_act hi hr (fun _ _ => rfl) ha (fun _ _ hs => hs) h
theorem wd_case {fuel : Nat} {listed : Array Bool} (d : Nat) {p : Prop} [Decidable p] (hb : lk L d = some (.bool (decide p))) (ht : p → WD P n B w0 ops K fuel listed ((d, .bool true) :: L) R) (hf : ¬ p → WD P n B w0 ops K fuel listed ((d, .bool false) :: L) R) : WD P n B w0 ops K fuel listed L R := by
  intro a w Q hs hp hq
  by_cases h : p
  · exact ht h a w Q (hs.sub (lk_shadow (by rw [hb, decide_eq_true h]))) hp hq
  · exact hf h a w Q (hs.sub (lk_shadow (by rw [hb, decide_eq_false h]))) hp hq
theorem wd_as {fuel : Nat} {listed : Array Bool} {d : Nat} {u v : Value} (hu : u = v) (h : WD P n B w0 ops K fuel listed ((d, v) :: L) R) : WD P n B w0 ops K fuel listed ((d, u) :: L) R := by
  subst hu
  exact h
theorem wd_rows {fuel : Nat} {listed : Array Bool} {R1 : List Row} (hR : R = R1) (h : WD P n B w0 ops K fuel listed L R1) : WD P n B w0 ops K fuel listed L R := by
  subst hR
  exact h
theorem wd_sub {fuel : Nat} {listed : Array Bool} {L1 : Env} (hL : Sub L1 L) (h : WD P n B w0 ops K fuel listed L1 R) : WD P n B w0 ops K fuel listed L R :=
  fun a w Q hs hp hq => h a w Q (hs.sub hL) hp hq
theorem wd_mono {fuel : Nat} {listed : Array Bool} {K' : Env → List Row → Prop} (h : WD P n B w0 ops K' fuel listed L R) (hk : ∀ L R, K' L R → K L R) : WD P n B w0 ops K fuel listed L R :=
  fun a w Q hs hp hpan hq => h a w Q hs hp hpan fun a' w' L' R' hs' hp' hk' => hq a' w' L' R' hs' hp' (hk _ _ hk')
theorem wd_join {σ : Type} {fuel : Nat} {listed : Array Bool} (Lx : σ → Env) (Rx : σ → List Row) (J : σ → Prop) (h : WD P n B w0 ops (Fam B w0 Lx Rx J) fuel listed L R) (hk : ∀ s, J s → ∀ L R, Sub (Lx s) L → (∀ w, Hp B w0 w R → Hp B w0 w (Rx s)) → K L R) : WD P n B w0 ops K fuel listed L R :=
  wd_mono h fun L R ⟨s, hJ, hL, hR⟩ => hk s hJ L R hL hR
end
end Go.Eng
