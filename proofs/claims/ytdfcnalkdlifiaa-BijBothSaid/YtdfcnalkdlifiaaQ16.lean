/-
  Plain laws: all places in order of their endings. Own work.
-/
import Derived.Test.YtdfcnalkdlifiaaQ14
import Derived.Test.YtdfcnalkdlifiaaQ15
namespace Go.Pure
open Go Go.Eng
/-- The places 0 .. n-1. -/
def iota (n : Nat) : List Int := (List.range n).map fun i : Nat => (i : Int)
theorem iota_len (n : Nat) : (iota n).length = n := by simp [iota]
theorem mem_iota {n : Nat} {x : Int} : x ∈ iota n ↔ 0 ≤ x ∧ x < n := by
  unfold iota
  rw [List.mem_map]
  constructor
  · rintro ⟨i, hi, rfl⟩
    have := List.mem_range.1 hi
    omega
  · intro h
    exact ⟨x.toNat, List.mem_range.2 (by omega), by omega⟩
theorem iota_succ {n : Int} (h : 0 ≤ n) : iota (n + 1).toNat = iota n.toNat ++ [n] := by
  unfold iota
  rw [show (n + 1).toNat = n.toNat + 1 by omega, List.range_succ, List.map_append]
  simp only [List.map_cons, List.map_nil]
  rw [show ((n.toNat : Nat) : Int) = n by omega]
theorem iota_toNat (n : Nat) : (iota n).map Int.toNat = List.range n := by
  unfold iota
  rw [List.map_map]
  have : (Int.toNat ∘ fun i : Nat => (i : Int)) = id := by funext i; simp
  rw [this, List.map_id]
/-- The order of endings. -/
def ordE (s : List Int) (x y : Int) : Prop := LtH s.length (eu s x.toNat) (eu s y.toNat)
theorem ordE_asymm {s : List Int} (x y : Int) (h : ordE s x y) : ¬ ordE s y x := h.asymm
theorem ordE_trans {s : List Int} (x y z : Int) (h : ordE s x y) (h' : ordE s y z) : ordE s x z := LtH.trans h h'
theorem eu_inj {s : List Int} {i k : Nat} (hi : i < s.length) (hk : k < s.length) (h : EqH s.length (eu s i) (eu s k)) : i = k := by
  rcases Nat.lt_trichotomy i k with a | a | a
  · have := h (s.length - k) (by omega)
    rw [eu_zero (s := s) (i := k) (by omega)] at this
    have := eu_pos (s := s) (i := i) (d := s.length - k) (by omega)
    omega
  · exact a
  · have := h (s.length - i) (by omega)
    rw [eu_zero (s := s) (i := i) (by omega)] at this
    have := eu_pos (s := s) (i := k) (d := s.length - i) (by omega)
    omega
theorem ordE_tri {s : List Int} {x y : Int} (hx : 0 ≤ x ∧ x < s.length) (hy : 0 ≤ y ∧ y < s.length) (h : x ≠ y) : ordE s x y ∨ ordE s y x := by
  rcases tri s.length (eu s x.toNat) (eu s y.toNat) with a | a | a
  · exact .inl a
  · have := eu_inj (by omega) (by omega) a
    omega
  · exact .inr a
theorem ordE_cmp {s : List Int} {x y : Int} : cmpL (s.drop x.toNat) (s.drop y.toNat) < 0 ↔ ordE s x y := by
  unfold ordE
  rw [← cut_lt]
  unfold cutE
  rw [List.take_of_length_le (by rw [List.length_drop]; omega), List.take_of_length_le (by rw [List.length_drop]; omega)]
/-- A new one put into a row that is in order. -/
theorem insI_sorted {r : Int → Int → Prop} (tr : ∀ x y z, r x y → r y z → r x z) {l : List Int} {x j : Int} (hs : l.Pairwise r) (hj0 : 0 ≤ j) (hj : j ≤ l.length) (hgt : ∀ i : Int, j ≤ i → i < l.length → r x (rd l i)) (h : 0 < j → r (rd l (j - 1)) x) : (l.take j.toNat ++ [x] ++ l.drop j.toNat).Pairwise r := by
  have hrd : ∀ i : Nat, ∀ h : i < l.length, rd l i = l[i] := fun i h => by
    unfold rd
    rw [Int.toNat_natCast, List.getD_eq_getElem?_getD, List.getElem?_eq_getElem h]
    rfl
  have hs' : (l.take j.toNat ++ l.drop j.toNat).Pairwise r := by rw [List.take_append_drop]; exact hs
  obtain ⟨a, b, c⟩ := List.pairwise_append.1 hs'
  refine List.pairwise_append.2 ⟨List.pairwise_append.2 ⟨a, List.pairwise_singleton _ _, fun y hy z hz => ?_⟩, b, fun y hy z hz => ?_⟩
  · obtain rfl := List.mem_singleton.1 hz
    obtain ⟨i, hi, rfl⟩ := List.mem_iff_getElem.1 hy
    rw [List.length_take] at hi
    rw [List.getElem_take]
    have hl := h (by omega)
    rw [show j - 1 = ((j.toNat - 1 : Nat) : Int) by omega, hrd _ (by omega)] at hl
    rcases Nat.lt_or_ge i (j.toNat - 1) with d | d
    · exact tr _ _ _ (List.pairwise_iff_getElem.1 hs i (j.toNat - 1) (by omega) (by omega) d) hl
    · have : i = j.toNat - 1 := by omega
      subst this
      exact hl
  · rcases List.mem_append.1 hy with hy | hy
    · exact c y hy z hz
    · obtain rfl := List.mem_singleton.1 hy
      obtain ⟨i, hi, rfl⟩ := List.mem_iff_getElem.1 hz
      rw [List.length_drop] at hi
      rw [List.getElem_drop]
      have := hgt ((j.toNat + i : Nat) : Int) (by omega) (by omega)
      rwa [hrd _ (by omega)] at this
/-- A step of the document's own sorting. -/
theorem insE_all {s : List Int} {i j : Int} {U : List Int} (hi0 : 0 ≤ i) (hi : i < s.length) (hp : U.Perm (iota i.toNat)) (hs : U.Pairwise (ordE s)) (hj0 : 0 ≤ j) (hj : j ≤ U.length) (hgt : ∀ q : Int, j ≤ q → q < U.length → ordE s i (rd U q))
    (h : ¬ (0 < j ∧ cmpL (s.drop i.toNat) (s.drop (rd U (j - 1)).toNat) < 0)) : (U.take j.toNat ++ [i] ++ U.drop j.toNat).Perm (iota (i + 1).toNat) ∧ (U.take j.toNat ++ [i] ++ U.drop j.toNat).Pairwise (ordE s) := by
  refine ⟨?_, insI_sorted (fun x y z => ordE_trans x y z) hs hj0 hj hgt fun h0 => ?_⟩
  · rw [iota_succ hi0]
    exact ins_perm.trans (List.Perm.append_right _ hp)
  · have hm := mem_iota.1 (hp.subset (rd_mem (L := U) (k := j - 1) (by omega) (by omega)))
    rcases ordE_tri (s := s) (x := rd U (j - 1)) (y := i) (by omega) (by omega) (by omega) with a | a
    · exact a
    · exact absurd ⟨h0, ordE_cmp.2 a⟩ h
theorem insE_down {s : List Int} {i j : Int} {U : List Int} (hgt : ∀ q : Int, j ≤ q → q < U.length → ordE s i (rd U q)) (h : 0 < j ∧ cmpL (s.drop i.toNat) (s.drop (rd U (j - 1)).toNat) < 0) : ∀ q : Int, j - 1 ≤ q → q < U.length → ordE s i (rd U q) := by
  intro q h1 h2
  rcases Int.lt_or_le q j with a | a
  · have : q = j - 1 := by omega
    subst this
    exact ordE_cmp.1 h.2
  · exact hgt q a h2
/-- One row of places is in order. -/
theorem one_orderE {s a b : List Int} (ha : a.Perm (iota s.length)) (hb : b.Perm (iota s.length)) (sa : a.Pairwise (ordE s)) (sb : b.Pairwise (ordE s)) : a = b :=
  one_order ordE_asymm (ha.trans hb.symm) sa sb
theorem rkS_top {s : List Int} {h i : Nat} (hi : i < s.length) : rkS s h i < s.length := by
  have : rkS s h i < (List.range s.length).countP fun _ => true := countP_strict (fun _ _ _ => rfl) ⟨i, List.mem_range.2 hi, by rw [decide_eq_false_iff_not, cut_lt]; exact fun h => h.asymm h, rfl⟩
  simpa using this
theorem rkS_inj {s : List Int} {i k : Nat} (hi : i < s.length) (hk : k < s.length) (h : rkS s s.length i = rkS s s.length k) : i = k := eu_inj hi hk ((rk_eq hi hk).1 h)
theorem rk_newI {s : List Int} {h : Nat} {o : List Int} {i : Int} (hp : o.Perm (iota s.length)) (hs : o.Pairwise fun x y => rkS s h x.toNat ≤ rkS s h y.toNat) (h0 : 0 ≤ i) (hi : i < o.length) (hnew : 0 < i → rkS s h (rd o (i - 1)).toNat ≠ rkS s h (rd o i).toNat) : (rkS s h (rd o i).toNat : Int) = i := by
  have hrd : ∀ j : Nat, ∀ h : j < (o.map Int.toNat).length, (o.map Int.toNat)[j] = (rd o j).toNat := fun j h => by
    rw [List.length_map] at h
    unfold rd
    rw [Int.toNat_natCast, List.getD_eq_getElem?_getD, List.getElem?_eq_getElem h]
    simp
  have hl : i.toNat < (o.map Int.toNat).length := by rw [List.length_map]; omega
  have hp' : (o.map Int.toNat).Perm (List.range s.length) := by
    have := hp.map Int.toNat
    rwa [iota_toNat] at this
  have := rk_new (s := s) (h := h) (o := o.map Int.toNat) (i := i.toNat) hp' (List.pairwise_map.2 hs) hl fun hz => by
    rw [hrd _ (by omega), hrd _ hl]
    have := hnew (by omega)
    rwa [show ((i.toNat - 1 : Nat) : Int) = i - 1 by omega, show ((i.toNat : Nat) : Int) = i by omega]
  rw [hrd _ hl, show ((i.toNat : Nat) : Int) = i by omega] at this
  omega
/-- Places by their ranks: the row in order. -/
theorem places {s b out : List Int} (hp : b.Perm (iota s.length)) (hs : b.Pairwise (ordE s)) (hl : out.length = s.length) (h : ∀ i : Nat, i < s.length → rd out (rkS s s.length i) = i) : out = b := by
  have hbl : b.length = s.length := by rw [hp.length_eq, iota_len]
  refine list_ext_rd (hl.trans hbl.symm) fun j h0 h1 => ?_
  have hm : ∀ q : Int, 0 ≤ q → q < b.length → 0 ≤ rd b q ∧ rd b q < s.length := fun q a c => mem_iota.1 (hp.subset (rd_mem a c))
  have hle : b.Pairwise fun x y => rkS s s.length x.toNat ≤ rkS s s.length y.toNat := hs.imp_of_mem fun {x y} hx hy h => by
    have := mem_iota.1 (hp.subset hx)
    exact Nat.le_of_lt ((rk_lt (by omega)).2 h)
  have hlt : ∀ q : Int, 0 < q → q < b.length → ordE s (rd b (q - 1)) (rd b q) := fun q a c => by
    have := List.pairwise_iff_getElem.1 hs (q - 1).toNat q.toNat (by omega) (by omega) (by omega)
    unfold rd
    rw [List.getD_eq_getElem?_getD, List.getD_eq_getElem?_getD, List.getElem?_eq_getElem (by omega), List.getElem?_eq_getElem (by omega)]
    exact this
  have hr := rk_newI (i := j) hp hle h0 (by omega) fun hz => by
    have := (rk_lt (by have := hm (j - 1) (by omega) (by omega); omega)).2 (hlt j hz (by omega))
    omega
  have hj := hm j h0 (by omega)
  have := h (rd b j).toNat (by omega)
  rw [hr] at this
  rw [this]
  omega
theorem places_step {s out : List Int} {m : Nat} (hm : m < s.length) (hl : out.length = s.length) (h : ∀ i : Nat, i < m → rd out (rkS s s.length i) = i) : ∀ i : Nat, i < m + 1 → rd (upd out (rkS s s.length m) m) (rkS s s.length i) = i := by
  intro i hi
  have ht := rkS_top (h := s.length) hm
  rw [rd_upd (by omega) (by omega) (by omega)]
  by_cases e : i = m
  · subst e
    rw [if_pos rfl]
  · rw [if_neg fun hh => e (rkS_inj (by omega) hm (by omega)), h i (by omega)]
/-- Ranks by one number: how many are less. -/
theorem rk_one {s : List Int} {i : Nat} (hi : i < s.length) : rkS s 1 i = s.countP fun x => decide (x < lt s i) := by
  unfold rkS
  have e : ∀ k, k < s.length → cutE s k 1 = [lt s k] := fun k hk => by
    unfold cutE
    rw [List.drop_eq_getElem_cons hk, List.take_succ_cons, List.take_zero]
    unfold lt
    rw [List.getD_eq_getElem?_getD, List.getElem?_eq_getElem hk]
    rfl
  have h1 : (List.range s.length).countP (fun k => decide (cmpL (cutE s k 1) (cutE s i 1) < 0)) = (List.range s.length).countP ((fun x => decide (x < lt s i)) ∘ lt s) := by
    refine List.countP_congr fun k hk => ?_
    rw [e k (List.mem_range.1 hk), e i hi]
    show decide (cmpL [lt s k] [lt s i] < 0) = true ↔ decide (lt s k < lt s i) = true
    rw [decide_eq_true_iff, decide_eq_true_iff]
    simp only [cmpL]
    by_cases a : lt s k < lt s i
    · rw [if_pos a]
      exact ⟨fun _ => a, fun _ => by omega⟩
    · rw [if_neg a]
      by_cases b : lt s i < lt s k
      · rw [if_pos b]
        exact ⟨fun h => by omega, fun h => absurd h a⟩
      · rw [if_neg b]
        exact ⟨fun h => by omega, fun h => absurd h a⟩
  rw [h1, ← List.countP_map]
  congr 1
  apply List.ext_getElem (by simp)
  intro k h1 h2
  simp [lt, List.getD_eq_getElem?_getD, List.getElem?_eq_getElem h2]
theorem lower_count {o s : List Int} {x p : Int} (hp : o.Perm s) (h0 : 0 ≤ p) (hpl : p ≤ o.length) (h1 : ∀ j : Int, 0 ≤ j → j < p → rd o j < x) (h2 : ∀ j : Int, p ≤ j → j < o.length → x ≤ rd o j) : p = (s.countP fun y => decide (y < x) : Nat) := by
  have hrd : ∀ i : Nat, ∀ h : i < o.length, rd o i = o[i] := fun i h => by
    unfold rd
    rw [Int.toNat_natCast, List.getD_eq_getElem?_getD, List.getElem?_eq_getElem h]
    rfl
  rw [← hp.countP_eq]
  have hsplit : o = o.take p.toNat ++ o.drop p.toNat := (List.take_append_drop _ o).symm
  have a : (o.take p.toNat).countP (fun y => decide (y < x)) = p.toNat := by
    have : (o.take p.toNat).length = p.toNat := by rw [List.length_take]; omega
    conv => rhs; rw [← this]
    rw [List.countP_eq_length]
    intro y hy
    rw [decide_eq_true_iff]
    obtain ⟨j, hj, rfl⟩ := List.mem_iff_getElem.1 hy
    rw [List.length_take] at hj
    rw [List.getElem_take, ← hrd j (by omega)]
    exact h1 j (by omega) (by omega)
  have b : (o.drop p.toNat).countP (fun y => decide (y < x)) = 0 := by
    rw [List.countP_eq_zero]
    intro y hy
    rw [decide_eq_true_iff]
    obtain ⟨j, hj, rfl⟩ := List.mem_iff_getElem.1 hy
    rw [List.length_drop] at hj
    rw [List.getElem_drop, ← hrd _ (by omega)]
    have := h2 ((p.toNat + j : Nat) : Int) (by omega) (by omega)
    omega
  conv => rhs; rw [hsplit]
  rw [List.countP_append, a, b]
  omega
/-- All ranks, as a row. -/
def rkL (s : List Int) (h : Nat) : List Int := (List.range s.length).map fun i => (rkS s h i : Int)
theorem rkL_len (s : List Int) (h : Nat) : (rkL s h).length = s.length := by simp [rkL]
theorem rd_rkL {s : List Int} {h : Nat} {i : Int} (h0 : 0 ≤ i) (hi : i < s.length) : rd (rkL s h) i = rkS s h i.toNat := rd_range h0 (by omega)
def onL (s : List Int) (n b : Nat) : List Int := (List.range s.length).map fun i => (rkOn s n (i + b) : Int)
theorem onL_len (s : List Int) (n b : Nat) : (onL s n b).length = s.length := by simp [onL]
theorem rd_onL {s : List Int} {n b : Nat} {i : Int} (h0 : 0 ≤ i) (hi : i < s.length) : rd (onL s n b) i = rkOn s n (i.toNat + b) := rd_range h0 (by omega)
theorem rkOn_le {s : List Int} {n i : Nat} : rkOn s n i ≤ s.length := by
  unfold rkOn
  split
  · rename_i h
    have := rkS_top (h := n) h
    omega
  · omega
/-- The order by both keys. -/
def joinO (s : List Int) (n b : Nat) : List Int := passK (passK (iota s.length) (onL s n b) (s.length + 1)) (rkL s n) s.length
theorem join_perm1 (s : List Int) (n b : Nat) : (passK (iota s.length) (onL s n b) (s.length + 1)).Perm (iota s.length) :=
  passK_perm fun i hi => by
    have := mem_iota.1 hi
    rw [rd_onL this.1 this.2]
    have := rkOn_le (s := s) (n := n) (i := i.toNat + b)
    omega
theorem join_perm (s : List Int) (n b : Nat) : (joinO s n b).Perm (iota s.length) :=
  (passK_perm fun i hi => by
    have := mem_iota.1 ((join_perm1 s n b).subset hi)
    rw [rd_rkL this.1 this.2]
    have := rkS_top (s := s) (h := n) (i := i.toNat) (by omega)
    omega).trans (join_perm1 s n b)
theorem join_sorted {s : List Int} {n b : Nat} (hn : 0 < n) (hb : b ≤ n) : (joinO s n b).Pairwise fun x y => rkS s (n + b) x.toNat ≤ rkS s (n + b) y.toNat := by
  have h1 : (passK (iota s.length) (onL s n b) (s.length + 1)).Pairwise fun x y => rd (onL s n b) x < rd (onL s n b) y ∨ rd (onL s n b) x = rd (onL s n b) y ∧ True :=
    passK_sorted (r := fun _ _ => True) (List.pairwise_of_forall fun _ _ => trivial) _
  have h2 := passK_sorted (keys := rkL s n) h1 s.length
  refine h2.imp_of_mem fun {x y} hx hy h => ?_
  have mx := mem_iota.1 ((join_perm s n b).subset hx)
  have my := mem_iota.1 ((join_perm s n b).subset hy)
  rw [rd_rkL mx.1 mx.2, rd_rkL my.1 my.2, rd_onL mx.1 mx.2, rd_onL my.1 my.2] at h
  refine Nat.not_lt.1 fun hlt => ?_
  rw [rk_join_lt hn hb (by omega) (by omega)] at hlt
  omega
/-- The loop that gives the new ranks. -/
theorem join_step {s out : List Int} {n b : Nat} {i v : Int} (hn : 0 < n) (hb : b ≤ n) (h0 : 0 ≤ i) (hi : i < s.length) (hl : out.length = s.length) (h : ∀ p : Int, 0 ≤ p → p < i → rd out (rd (joinO s n b) p) = rkS s (n + b) (rd (joinO s n b) p).toNat)
    (hv : (0 < i ∧ rd (rkL s n) (rd (joinO s n b) (i - 1)) = rd (rkL s n) (rd (joinO s n b) i) ∧ rd (onL s n b) (rd (joinO s n b) (i - 1)) = rd (onL s n b) (rd (joinO s n b) i) ∧ v = rkS s (n + b) (rd (joinO s n b) (i - 1)).toNat) ∨
      (¬ (0 < i ∧ rd (rkL s n) (rd (joinO s n b) (i - 1)) = rd (rkL s n) (rd (joinO s n b) i) ∧ rd (onL s n b) (rd (joinO s n b) (i - 1)) = rd (onL s n b) (rd (joinO s n b) i)) ∧ v = i)) :
    ∀ p : Int, 0 ≤ p → p < i + 1 → rd (upd out (rd (joinO s n b) i) v) (rd (joinO s n b) p) = rkS s (n + b) (rd (joinO s n b) p).toNat := by
  have hlen : (joinO s n b).length = s.length := by rw [(join_perm s n b).length_eq, iota_len]
  have hm : ∀ q : Int, 0 ≤ q → q < s.length → 0 ≤ rd (joinO s n b) q ∧ rd (joinO s n b) q < s.length := fun q a c => mem_iota.1 ((join_perm s n b).subset (rd_mem a (by omega)))
  have hnd : (joinO s n b).Nodup := (join_perm s n b).symm.nodup (by
    unfold iota
    exact List.pairwise_map.2 (List.nodup_range.imp fun {x y} h hh => h (by omega)))
  have hval : v = rkS s (n + b) (rd (joinO s n b) i).toNat := by
    have mi := hm i h0 hi
    rcases hv with ⟨hz, e1, e2, e3⟩ | ⟨hno, e3⟩
    · have mp := hm (i - 1) (by omega) (by omega)
      rw [rd_rkL mp.1 mp.2, rd_rkL mi.1 mi.2] at e1
      rw [rd_onL mp.1 mp.2, rd_onL mi.1 mi.2] at e2
      rw [e3]
      have := (rk_join_eq (s := s) (n := n) (b := b) (i := (rd (joinO s n b) (i - 1)).toNat) (k := (rd (joinO s n b) i).toNat) hn hb (by omega) (by omega)).2 ⟨by omega, by omega⟩
      omega
    · rw [e3]
      refine (rk_newI (join_perm s n b) (join_sorted hn hb) h0 (by omega) fun hz he => hno ⟨hz, ?_⟩).symm
      have mp := hm (i - 1) (by omega) (by omega)
      have := (rk_join_eq (s := s) (n := n) (b := b) (i := (rd (joinO s n b) (i - 1)).toNat) (k := (rd (joinO s n b) i).toNat) hn hb (by omega) (by omega)).1 he
      rw [rd_rkL mp.1 mp.2, rd_rkL mi.1 mi.2, rd_onL mp.1 mp.2, rd_onL mi.1 mi.2]
      exact ⟨by omega, by omega⟩
  intro p p0 p1
  have mi := hm i h0 hi
  have mp := hm p p0 (by omega)
  rw [rd_upd mi.1 mp.1 (by omega)]
  by_cases e : p = i
  · subst e
    rw [if_pos rfl, hval]
  · rw [if_neg, h p p0 (by omega)]
    intro he
    have hp' : p.toNat < (joinO s n b).length := by omega
    have hi' : i.toNat < (joinO s n b).length := by omega
    unfold rd at he
    rw [List.getD_eq_getElem?_getD, List.getD_eq_getElem?_getD, List.getElem?_eq_getElem hp', List.getElem?_eq_getElem hi'] at he
    simp only [Option.getD_some] at he
    exact (List.pairwise_iff_getElem.1 hnd p.toNat i.toNat hp' hi' (by omega)) he
theorem join_done {s out : List Int} {n b : Nat} (hl : out.length = s.length) (h : ∀ p : Int, 0 ≤ p → p < s.length → rd out (rd (joinO s n b) p) = rkS s (n + b) (rd (joinO s n b) p).toNat) : out = rkL s (n + b) := by
  refine list_ext_rd (hl.trans (rkL_len _ _).symm) fun j h0 h1 => ?_
  have hmem := (join_perm s n b).symm.subset (mem_iota.2 ⟨h0, by omega⟩ : j ∈ iota s.length)
  obtain ⟨q, hq, e⟩ := List.mem_iff_getElem.1 hmem
  have hlen : (joinO s n b).length = s.length := by rw [(join_perm s n b).length_eq, iota_len]
  have := h q (by omega) (by omega)
  have e2 : rd (joinO s n b) q = j := by
    unfold rd
    rw [Int.toNat_natCast, List.getD_eq_getElem?_getD, List.getElem?_eq_getElem hq]
    exact e
  rw [e2] at this
  rw [this, rd_rkL h0 (by omega)]
end Go.Pure
