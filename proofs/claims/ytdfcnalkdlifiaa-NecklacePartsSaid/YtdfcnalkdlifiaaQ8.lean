/-
  Plain laws: classes in order, and when there are no more of them. Own work.
-/
import Derived.Test.YtdfcnalkdlifiaaQ7
namespace Go.Pure
open Go Go.Eng
theorem sorted_perm_eq : ∀ {a b : List Int}, a.Perm b → a.Pairwise (· ≤ ·) → b.Pairwise (· ≤ ·) → a = b
  | [], b, h, _, _ => (List.nil_perm.1 h).symm
  | x :: a, [], h, _, _ => absurd h.symm (by simp)
  | x :: a, y :: b, h, ha, hb => by
    have h1 : y ≤ x := by
      rcases List.mem_cons.1 (h.mem_iff.1 (.head _)) with e | e
      · omega
      · exact (List.pairwise_cons.1 hb).1 x e
    have h2 : x ≤ y := by
      rcases List.mem_cons.1 (h.mem_iff.2 (.head _)) with e | e
      · omega
      · exact (List.pairwise_cons.1 ha).1 y e
    have e : x = y := by omega
    subst e
    rw [sorted_perm_eq ((List.perm_cons x).1 h) (List.pairwise_cons.1 ha).2 (List.pairwise_cons.1 hb).2]
theorem LtH.mono {H M : Nat} {U V : Nat → Int} (h : LtH H U V) (hm : H ≤ M) : LtH M U V := by
  obtain ⟨k, hk, r⟩ := h
  exact ⟨k, by omega, r⟩
theorem EqH.mono {H M : Nat} {U V : Nat → Int} (h : EqH M U V) (hm : H ≤ M) : EqH H U V := fun i hi => h i (by omega)
/-- An order by M letters and by place, of rotations that are. -/
structure Sorted (ws : List (List Int)) (M : Nat) (l : List (Int × Int)) : Prop where
  tv : ∀ t ∈ l, TV ws t
  nodup : l.Nodup
  pw : l.Pairwise fun x y => ¬ ordH ws M y x
theorem rdp_get {l : List (Int × Int)} {j : Nat} (h : j < l.length) : rdp l j = l[j] := by
  simp [rdp, List.getD_eq_getElem?_getD, List.getElem?_eq_getElem h]
theorem Sorted.le {ws : List (List Int)} {M : Nat} {l : List (Int × Int)} (s : Sorted ws M l) {i j : Nat} (hij : i < j) (hj : j < l.length) : ¬ LtH M (tw ws (rdp l j)) (tw ws (rdp l i)) := by
  have := List.pairwise_iff_getElem.1 s.pw i j (by omega) hj hij
  rw [rdp_get hj, rdp_get (by omega)]
  exact fun h => this (.inl h)
theorem Sorted.eq_between {ws : List (List Int)} {M : Nat} {l : List (Int × Int)} (s : Sorted ws M l) {i m j : Nat} (h1 : i ≤ m) (h2 : m ≤ j) (hj : j < l.length) (he : EqH M (tw ws (rdp l i)) (tw ws (rdp l j))) : EqH M (tw ws (rdp l i)) (tw ws (rdp l m)) := by
  rcases Nat.eq_or_lt_of_le h1 with rfl | h1
  · exact fun _ _ => rfl
  rcases Nat.eq_or_lt_of_le h2 with rfl | h2
  · exact he
  rcases tri M (tw ws (rdp l i)) (tw ws (rdp l m)) with a | a | a
  · exact absurd (LtH.eq_left he.symm a) (s.le h2 hj)
  · exact a
  · exact absurd a (s.le h1 (by omega))
section
variable {ws : List (List Int)} {bs rs : List Int} {h : Int} {l : List (Int × Int)}
theorem cls_succ (hh : 0 ≤ h) (hr : RK ws bs (curH h) rs) (s : Sorted ws (nextH h) l) {j : Nat} (hj : j + 1 < l.length) :
    (EqH (nextH h) (tw ws (rdp l j)) (tw ws (rdp l (j + 1 : Nat))) ∧ clsF ws bs rs h l (j + 1) = clsF ws bs rs h l j) ∨ (¬ EqH (nextH h) (tw ws (rdp l j)) (tw ws (rdp l (j + 1 : Nat))) ∧ clsF ws bs rs h l (j + 1) = clsF ws bs rs h l j + 1) := by
  have ht := s.tv _ (rdp_mem (l := l) (i := (j : Int)) (by omega) (by omega))
  have hu := s.tv _ (rdp_mem (l := l) (i := ((j + 1 : Nat) : Int)) (by omega) (by omega))
  have hk := keyNe_eq hh hr ht hu
  show _ ∧ clsF ws bs rs h l j + (if keyNe ws bs rs h (rdp l j) (rdp l (j + 1 : Nat)) then 1 else 0) = _ ∨ _
  by_cases e : EqH (nextH h) (tw ws (rdp l j)) (tw ws (rdp l (j + 1 : Nat)))
  · exact .inl ⟨e, by rw [if_neg (fun k => hk.1 k e), Int.add_zero]⟩
  · refine .inr ⟨e, ?_⟩
    show clsF ws bs rs h l j + (if keyNe ws bs rs h (rdp l j) (rdp l (j + 1 : Nat)) then 1 else 0) = _
    rw [if_pos (hk.2 e)]
theorem cls_mono (hh : 0 ≤ h) (hr : RK ws bs (curH h) rs) (s : Sorted ws (nextH h) l) {i : Nat} : ∀ d, i + d < l.length → clsF ws bs rs h l i ≤ clsF ws bs rs h l (i + d) ∧ (clsF ws bs rs h l i = clsF ws bs rs h l (i + d) ↔ EqH (nextH h) (tw ws (rdp l i)) (tw ws (rdp l (i + d : Nat))))
  | 0, _ => ⟨Int.le_refl _, ⟨fun _ _ _ => rfl, fun _ => rfl⟩⟩
  | d + 1, hd => by
    obtain ⟨a, b⟩ := cls_mono (i := i) hh hr s d (by omega)
    rcases cls_succ hh hr s (j := i + d) hd with ⟨e, c⟩ | ⟨e, c⟩
    · have c' : clsF ws bs rs h l (i + (d + 1)) = clsF ws bs rs h l (i + d) := c
      rw [c']
      refine ⟨a, b.trans ⟨fun x => x.trans e, fun x => x.trans e.symm⟩⟩
    · have c' : clsF ws bs rs h l (i + (d + 1)) = clsF ws bs rs h l (i + d) + 1 := c
      rw [c']
      refine ⟨by omega, ⟨fun x => by omega, fun x => absurd ?_ e⟩⟩
      have y := s.eq_between (m := i + d) (by omega) (by omega) hd x
      exact y.symm.trans x
theorem cls_lt (hh : 0 ≤ h) (hr : RK ws bs (curH h) rs) (s : Sorted ws (nextH h) l) {i j : Nat} (hi : i < l.length) (hj : j < l.length) :
    (clsF ws bs rs h l i < clsF ws bs rs h l j ↔ LtH (nextH h) (tw ws (rdp l i)) (tw ws (rdp l j))) ∧ (clsF ws bs rs h l i = clsF ws bs rs h l j ↔ EqH (nextH h) (tw ws (rdp l i)) (tw ws (rdp l j))) := by
  rcases Nat.lt_trichotomy i j with hlt | rfl | hlt
  · obtain ⟨d, rfl⟩ : ∃ d, j = i + d := ⟨j - i, by omega⟩
    obtain ⟨a, b⟩ := cls_mono (i := i) hh hr s d hj
    refine ⟨?_, b⟩
    constructor
    · intro x
      rcases tri (nextH h) (tw ws (rdp l i)) (tw ws (rdp l (i + d : Nat))) with y | y | y
      · exact y
      · have := b.2 y; omega
      · exact absurd y (s.le hlt hj)
    · intro x
      have : clsF ws bs rs h l i ≠ clsF ws bs rs h l (i + d) := fun e => x.not_eq (b.1 e)
      omega
  · exact ⟨⟨fun x => by omega, fun x => absurd x x.asymm⟩, ⟨fun _ _ _ => rfl, fun _ => rfl⟩⟩
  · obtain ⟨d, rfl⟩ : ∃ d, i = j + d := ⟨i - j, by omega⟩
    obtain ⟨a, b⟩ := cls_mono (i := j) hh hr s d hi
    refine ⟨⟨fun x => by omega, fun x => absurd x (s.le hlt hi)⟩, ⟨fun x => (b.1 x.symm).symm, fun x => (b.2 x.symm).symm⟩⟩
/-- What doubles leaves are ranks by the next number of letters. -/
theorem rk_next (hh : 0 ≤ h) (hr : RK ws bs (curH h) rs) (s : Sorted ws (nextH h) l) (hall : ∀ t, TV ws t → t ∈ l) {rk : List Int} (hrk : ∀ j : Nat, j < l.length → rd rk (posT bs (rdp l j)) = clsF ws bs rs h l j) : RK ws bs (nextH h) rk := by
  intro t u ht hu
  obtain ⟨i, hi, rfl⟩ := List.mem_iff_getElem.1 (hall t ht)
  obtain ⟨j, hj, rfl⟩ := List.mem_iff_getElem.1 (hall u hu)
  rw [← rdp_get hi, ← rdp_get hj, hrk i hi, hrk j hj]
  exact cls_lt hh hr s hi hj
/-- Ranks that rise by one at most, from nought to w, along an order. -/
structure Steps (bs rs : List Int) (lo : List (Int × Int)) (w : Int) : Prop where
  zero : 0 < lo.length → rd rs (posT bs (rdp lo (0 : Nat))) = 0
  step : ∀ j : Nat, j + 1 < lo.length → rd rs (posT bs (rdp lo (j + 1 : Nat))) = rd rs (posT bs (rdp lo j)) ∨ rd rs (posT bs (rdp lo (j + 1 : Nat))) = rd rs (posT bs (rdp lo j)) + 1
  last : 0 < lo.length → rd rs (posT bs (rdp lo ((lo.length - 1 : Nat) : Int))) = w
theorem steps_next (hh : 0 ≤ h) (hr : RK ws bs (curH h) rs) (s : Sorted ws (nextH h) l) {rk : List Int} (hrk : ∀ j : Nat, j < l.length → rd rk (posT bs (rdp l j)) = clsF ws bs rs h l j) : Steps bs rk l (clsF ws bs rs h l (l.length - 1)) := by
  refine ⟨fun h0 => by rw [hrk 0 h0]; rfl, fun j hj => ?_, fun h0 => hrk _ (by omega)⟩
  rw [hrk _ hj, hrk j (by omega)]
  rcases cls_succ hh hr s hj with ⟨_, e⟩ | ⟨_, e⟩
  · exact .inl e
  · exact .inr e
theorem map_sorted {f : Int × Int → Int} {l : List (Int × Int)} (h : ∀ j : Nat, j + 1 < l.length → f (rdp l j) ≤ f (rdp l (j + 1 : Nat))) : (l.map f).Pairwise (· ≤ ·) := by
  have mono : ∀ d i : Nat, i + d < l.length → f (rdp l i) ≤ f (rdp l (i + d : Nat)) := by
    intro d
    induction d with
    | zero => intro i _; exact Int.le_refl _
    | succ d ih => intro i hi; exact Int.le_trans (ih i (by omega)) (h (i + d) (by omega))
  refine List.pairwise_map.2 (List.pairwise_iff_getElem.2 fun i j hi hj hij => ?_)
  have := mono (j - i) i (by omega)
  rw [show i + (j - i) = j by omega, rdp_get hi, rdp_get hj] at this
  exact this
/-- No class more: no class is parted. -/
theorem no_more (h0 : 0 < h) (hr : RK ws bs (curH h) rs) (s : Sorted ws (nextH h) l) {lo : List (Int × Int)} {w : Int} (hp : l.Perm lo) (st : Steps bs rs lo w) (hw : clsF ws bs rs h l (l.length - 1) = w) {i j : Nat} (hi : i < l.length) (hj : j < l.length)
    (he : EqH (curH h) (tw ws (rdp l i)) (tw ws (rdp l j))) : EqH (nextH h) (tw ws (rdp l i)) (tw ws (rdp l j)) := by
  have hh : 0 ≤ h := by omega
  have hcn : curH h ≤ nextH h := by unfold curH nextH; rw [if_neg (by omega)]; omega
  have hlen := hp.length_eq
  let g : Int × Int → Int := fun t => rd rs (posT bs t)
  have tvj : ∀ j : Nat, j < l.length → TV ws (rdp l j) := fun j hj => s.tv _ (rdp_mem (by omega) (by omega))
  have ga : (l.map g).Pairwise (· ≤ ·) := map_sorted fun j hj => by
    have hn := s.le (i := j) (j := j + 1) (by omega) hj
    have := (hr _ _ (tvj (j + 1) hj) (tvj j (by omega))).1
    have hn' : ¬ rd rs (posT bs (rdp l (j + 1 : Nat))) < rd rs (posT bs (rdp l j)) := fun x => hn ((this.1 x).mono hcn)
    show rd rs (posT bs (rdp l j)) ≤ rd rs (posT bs (rdp l (j + 1 : Nat)))
    omega
  have gb : (lo.map g).Pairwise (· ≤ ·) := map_sorted fun j hj => by
    show rd rs (posT bs (rdp lo j)) ≤ rd rs (posT bs (rdp lo (j + 1 : Nat)))
    rcases st.step j hj with e | e <;> omega
  have heq := sorted_perm_eq (hp.map g) ga gb
  have gj : ∀ j : Nat, j < l.length → g (rdp l j) = g (rdp lo j) := fun j hj => by
    have h2 : j < lo.length := by omega
    have := congrArg (fun q => q[j]?) heq
    simp only [List.getElem?_map, List.getElem?_eq_getElem hj, List.getElem?_eq_getElem h2, Option.map_some, Option.some.injEq] at this
    rw [rdp_get hj, rdp_get h2]
    exact this
  have key : ∀ d k : Nat, k + d < l.length → clsF ws bs rs h l k - g (rdp l k) ≤ clsF ws bs rs h l (k + d) - g (rdp l (k + d : Nat)) := by
    intro d
    induction d with
    | zero => intro k _; exact Int.le_refl _
    | succ d ih =>
      intro k hk
      refine Int.le_trans (ih k (by omega)) ?_
      have e1 := gj (k + d) (by omega)
      have e2 := gj (k + (d + 1)) hk
      have hst := st.step (k + d) (by omega)
      have hg : g (rdp lo (k + (d + 1) : Nat)) = g (rdp lo (k + d : Nat)) ∨ g (rdp lo (k + (d + 1) : Nat)) = g (rdp lo (k + d : Nat)) + 1 := hst
      rcases cls_succ hh hr s (j := k + d) hk with ⟨e, c⟩ | ⟨e, c⟩
      · have c' : clsF ws bs rs h l (k + (d + 1)) = clsF ws bs rs h l (k + d) := c
        have := (hr _ _ (tvj (k + d) (by omega)) (tvj (k + d + 1) hk)).2.2 (e.mono hcn)
        have this' : g (rdp l (k + d : Nat)) = g (rdp l (k + (d + 1) : Nat)) := this
        omega
      · have c' : clsF ws bs rs h l (k + (d + 1)) = clsF ws bs rs h l (k + d) + 1 := c
        omega
  have all0 : ∀ k : Nat, k < l.length → clsF ws bs rs h l k = g (rdp l k) := by
    intro k hk
    have hpos : 0 < l.length := by omega
    have a := key k 0 (by omega)
    have b := key (l.length - 1 - k) k (by omega)
    rw [Nat.zero_add] at a
    rw [show k + (l.length - 1 - k) = l.length - 1 by omega, hw] at b
    have z := gj 0 hpos
    have z' : g (rdp lo (0 : Nat)) = 0 := st.zero (by omega)
    have y := gj (l.length - 1) (by omega)
    have y' := st.last (by omega)
    rw [← hlen] at y'
    have y'' : g (rdp lo ((l.length - 1 : Nat) : Int)) = w := y'
    have c0 : clsF ws bs rs h l 0 = 0 := rfl
    omega
  have e1 := (hr _ _ (tvj i hi) (tvj j hj)).2.2 he
  refine (cls_lt hh hr s hi hj).2.1 ?_
  rw [all0 i hi, all0 j hj]
  exact e1
end
end Go.Pure
