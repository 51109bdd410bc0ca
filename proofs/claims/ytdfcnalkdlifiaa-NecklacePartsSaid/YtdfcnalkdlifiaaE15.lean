/-
  Engine: a number of a pair; two operations that may come in either order. Own work.
-/
import Derived.Test.YtdfcnalkdlifiaaE14
import Derived.Test.YtdfcnalkdlifiaaE12
namespace Go.Eng
open Go Go.RowKit Go.Proofs
theorem SlW.elim {C : Prop} {k : IntKind} {w : World} {vals : List Value} {ls : List (List Int)} (h : SlW k w vals ls) {i : Int} (h0 : 0 ≤ i) (h1 : i < ls.length) (q : ∀ (A : Option Addr) (c : Nat), vals[i.toNat]? = some (Value.slice A (rdl ls i).length c) → Rd w A (rdl ls i).length c 1 (ints k (rdl ls i)) → (∀ x ∈ rdl ls i, (Lit.int k x).wf = true) → (rdl ls i).length ≤ 140737488355327 → C) : C := by
  obtain ⟨A, c, a, b, d, e⟩ := h.at h0 h1
  exact q A c a b d e
section
variable {P : Program} {n : Nd} {B : Nat} {w0 : World} {L : Env} {R : List Row} {ty : TypeId}
theorem y_pairAt {x ix : Operand} {t e : TypeId} {k : IntKind} {A : Option Addr} {m c q : Nat} {i j : Int} {l : List (Int × Int)} (ht : P.underlying t = some (.array 2 e)) (hi : (P.info? e).map (·.size) = some 1) (hx : ev L x = some (.pointer (pat A (i.toNat * 2)))) (hix : ev L ix = some (.int k j))
    (hr : RdC B w0 R A m c 2 (prs l)) (h0 : 0 ≤ i) (h1 : i < l.length) (hj : j.toNat = q) (hj0 : 0 ≤ j) (hj1 : j < 2) : Yl P n B w0 (.indexAddr t x ix) ty L R (.pointer (pat A (i.toNat * 2 + q))) := by
  have := y_indexArr (P := P) (n := n) (B := B) (w0 := w0) (ty := ty) ht hi hx rfl hix hr (by rw [prs_length]; omega) hj0 hj1
  rwa [Nat.mul_one, hj] at this
theorem prs_fst {l : List (Int × Int)} {i : Int} (h0 : 0 ≤ i) (h : i < l.length) : (prs l)[i.toNat * 2 + 0]? = some (.int .i64 (rdp l i).1) := by
  rw [prs_get _ _ (by omega)]
  rw [if_pos (by omega), show (i.toNat * 2 + 0) / 2 = i.toNat by omega]
  rfl
theorem prs_snd {l : List (Int × Int)} {i : Int} (h0 : 0 ≤ i) (h : i < l.length) : (prs l)[i.toNat * 2 + 1]? = some (.int .i64 (rdp l i).2) := by
  rw [prs_get _ _ (by omega)]
  rw [if_neg (by omega), show (i.toNat * 2 + 1) / 2 = i.toNat by omega]
  rfl
theorem y_ldP1 {x : Operand} {t : TypeId} {d : TypeDesc} {A : Option Addr} {m c : Nat} {l : List (Int × Int)} {i : Int} (hu : P.underlying t = some d) (hd : aggB d = false) (hx : ev L x = some (.pointer (pat A (i.toNat * 2 + 0)))) (hr : RdC B w0 R A m c 2 (prs l)) (h0 : 0 ≤ i) (h1 : i < l.length) :
    Yl P n B w0 (.load t x) ty L R (.int .i64 (rdp l i).1) := y_ld hu hd hx rfl hr (prs_fst h0 h1)
theorem y_ldP2 {x : Operand} {t : TypeId} {d : TypeDesc} {A : Option Addr} {m c : Nat} {l : List (Int × Int)} {i : Int} (hu : P.underlying t = some d) (hd : aggB d = false) (hx : ev L x = some (.pointer (pat A (i.toNat * 2 + 1)))) (hr : RdC B w0 R A m c 2 (prs l)) (h0 : 0 ≤ i) (h1 : i < l.length) :
    Yl P n B w0 (.load t x) ty L R (.int .i64 (rdp l i).2) := y_ld hu hd hx rfl hr (prs_snd h0 h1)
end
section
variable {P : Program} {n : Nd} {B : Nat} {w0 : World} {ops : Array Oper} {K : Env → List Row → Prop} {L : Env} {R : List Row} {op : Op} {ty : TypeId} {pos : String} {aft : Array Edge}
/-- One of those that may come up now, at its turn. -/
def Turn1 (P : Program) (n : Nd) (B : Nat) (w0 : World) (ops : Array Oper) (K : Env → List Row → Prop) (fuel : Nat) (listed : Array Bool) (L : Env) (R : List Row) (i : Nat) : Prop :=
  ∀ a w (Q : Exit → Act → World → Prop), Sat n L a → Hp B w0 w R → (∀ c a w, ¬ Q (.panic c) a w) → (∀ a' w' L' R', Sat n L' a' → Hp B w0 w' R' → K L' R' → Q .normal a' w') →
    wpOp P ops Q i (fun a' w' => ∃ S' : World → Prop, S' w' ∧ (barB ops listed i = true ∨ ∀ x, S' x → Hp B w0 x R) ∧ wpAnyB P ops Q fuel S' (listed.setIfInBounds i true) a' w') a w
theorem wd_two {fuel : Nat} {listed : Array Bool} (i j : Nat) (hr : Region.ready .any ops listed = [i, j]) (hi : Turn1 P n B w0 ops K fuel listed L R i) (hj : Turn1 P n B w0 ops K fuel listed L R j) : WD P n B w0 ops K (fuel + 1) listed L R := by
  intro a w Q hs hp hpan hq
  refine ⟨fun h0 => absurd (hr ▸ h0) (by simp), fun k hk => ?_⟩
  rw [hr] at hk
  rcases List.mem_cons.1 hk with rfl | hk
  · exact hi a w Q hs hp hpan hq
  · obtain rfl := List.mem_singleton.1 hk
    exact hj a w Q hs hp hpan hq
theorem t1_act {i : Nat} {o : Oper} {Post : Value → List Row → Prop} {fuel : Nat} {listed : Array Bool} (hi : ops[i]? = some o) (hg : ∀ a, Sat n L a → Region.wanted o (yielded ops a.tmps) = true) (ha : Ac P n B w0 o.op o.type L R Post)
    (hn : ∀ v a, Sat n L a → Sat n (match o.dst with | some d => (d, v) :: L | none => L) (a.put o.dst v))
    (h : ∀ v R', Post v R' → (barB ops listed i = true ∨ ∀ w, Hp B w0 w R' → Hp B w0 w R) ∧ WD P n B w0 ops K fuel (listed.setIfInBounds i true) (match o.dst with | some d => (d, v) :: L | none => L) R') : Turn1 P n B w0 ops K fuel listed L R i := by
  intro a w Q hs hp hpan hq
  unfold wpOp
  simp only [hi, hg a hs, if_true]
  refine .inl (ha a w o _ Q rfl rfl hs hp fun v w' R' hp' hv => ?_)
  obtain ⟨h1, h2⟩ := h v R' hv
  exact ⟨fun w => Hp B w0 w R', hp', h1, h2 _ w' Q (hn v a hs) hp' hpan hq⟩
theorem t1_a {d : Nat} {Post : Value → List Row → Prop} {fuel : Nat} {listed : Array Bool} (i : Nat) (hi : ops[i]? = some { dst := some d, op := op, type := ty, pos := pos, after := aft, guard := none }) (hn : Nat.blt d n = true) (ha : Ac P n B w0 op ty L R Post)
    (h : ∀ v R', Post v R' → (barB ops listed i = true ∨ ∀ w, Hp B w0 w R' → Hp B w0 w R) ∧ WD P n B w0 ops K fuel (listed.setIfInBounds i true) ((d, v) :: L) R') : Turn1 P n B w0 ops K fuel listed L R i :=
  t1_act hi (fun _ _ => rfl) ha (fun v _ hs => hs.put hn v) h
theorem t1_ag {d j e : Nat} {want : Bool} {Post : Value → List Row → Prop} {fuel : Nat} {listed : Array Bool} (i : Nat) (hi : ops[i]? = some { dst := some d, op := op, type := ty, pos := pos, after := aft, guard := some (j, want) }) (hn : Nat.blt d n = true)
    (hj : (ops[j]?).bind (·.dst) = some e) (hb : lk L e = some (.bool want)) (ha : Ac P n B w0 op ty L R Post)
    (h : ∀ v R', Post v R' → (barB ops listed i = true ∨ ∀ w, Hp B w0 w R' → Hp B w0 w R) ∧ WD P n B w0 ops K fuel (listed.setIfInBounds i true) ((d, v) :: L) R') : Turn1 P n B w0 ops K fuel listed L R i :=
  t1_act hi (fun a hs => by simp [Region.wanted, yielded_of hs hj hb]) ha (fun v _ hs => hs.put hn v) h
end
end Go.Eng
