/-
  Plain laws: sorting by counting. Own work.
-/
import Derived.Test.YtdfcnalkdlifiaaQ13
namespace Go.Pure
open Go Go.Eng
theorem list_ext_rd {l m : List Int} (hl : l.length = m.length) (h : ∀ j : Int, 0 ≤ j → j < l.length → rd l j = rd m j) : l = m := by
  apply List.ext_getElem hl
  intro i h1 h2
  have := h i (by omega) (by omega)
  unfold rd at this
  rw [Int.toNat_natCast, List.getD_eq_getElem?_getD, List.getD_eq_getElem?_getD, List.getElem?_eq_getElem h1, List.getElem?_eq_getElem h2] at this
  exact this
theorem rd_range {f : Nat → Int} {n : Nat} {i : Int} (h0 : 0 ≤ i) (h : i < n) : rd ((List.range n).map f) i = f i.toNat := by
  unfold rd
  rw [List.getD_eq_getElem?_getD, List.getElem?_map, List.getElem?_range (by omega)]
  rfl
theorem rd_replicate {n : Nat} {i : Int} : rd (List.replicate n 0) i = 0 := by
  unfold rd
  rw [List.getD_eq_getElem?_getD, List.getElem?_replicate]
  split <;> rfl
/-- How often each number stands there. -/
def cntV (ks : List Int) (k : Int) : List Int := (List.range k.toNat).map fun c : Nat => ((ks.filter fun x => decide (x = (c : Int))).length : Int)
theorem cntV_len (ks : List Int) (k : Int) : (cntV ks k).length = k.toNat := by simp [cntV]
theorem cntV_nil (k : Int) : cntV [] k = List.replicate k.toNat 0 := by
  unfold cntV
  simp only [List.filter_nil, List.length_nil]
  apply List.ext_getElem (by simp)
  intro i h1 h2
  simp
theorem rd_cntV {ks : List Int} {k c : Int} (h0 : 0 ≤ c) (h : c < k) : rd (cntV ks k) c = ((ks.filter fun x => decide (x = c)).length : Int) := by
  unfold cntV
  rw [rd_range h0 (by omega)]
  rw [show ((c.toNat : Nat) : Int) = c by omega]
theorem cntV_step {ks : List Int} {k x : Int} (h0 : 0 ≤ x) (h : x < k) : upd (cntV ks k) x (rd (cntV ks k) x + 1) = cntV (ks ++ [x]) k := by
  refine list_ext_rd (by rw [upd_length, cntV_len, cntV_len]) fun j h1 h2 => ?_
  rw [upd_length, cntV_len] at h2
  rw [rd_upd h0 h1 (by rw [cntV_len]; omega), rd_cntV (ks := ks ++ [x]) h1 (by omega), List.filter_append, List.length_append]
  by_cases e : j = x
  · subst e
    rw [if_pos rfl, rd_cntV h1 (by omega)]
    simp
  · rw [if_neg e, rd_cntV h1 (by omega)]
    have : ([x].filter fun y => decide (y = j)) = [] := by
      rw [List.filter_cons_of_neg (by simp; exact fun h => e h.symm)]
      rfl
    rw [this]
    simp
/-- How many there are ahead of each. -/
def startsV (cs : List Int) : List Int := (List.range cs.length).map fun i : Nat => ps cs i
theorem startsV_len (cs : List Int) : (startsV cs).length = cs.length := by simp [startsV]
theorem rd_startsV {cs : List Int} {i : Int} (h0 : 0 ≤ i) (h : i < cs.length) : rd (startsV cs) i = ps cs i := by
  unfold startsV
  rw [rd_range h0 h]
  rw [show ((i.toNat : Nat) : Int) = i by omega]
/-- Those of an order that have this key. -/
def ofKey (order keys : List Int) (c : Int) : List Int := order.filter fun i => decide (rd keys i = c)
def passK (order keys : List Int) : Nat → List Int
  | 0 => []
  | c + 1 => passK order keys c ++ ofKey order keys c
theorem ofKey_snoc_same {order keys : List Int} {i c : Int} (h : rd keys i = c) : ofKey (order ++ [i]) keys c = ofKey order keys c ++ [i] := by
  unfold ofKey
  rw [List.filter_append, List.filter_cons_of_pos (by simpa using h)]
  rfl
theorem ofKey_snoc_other {order keys : List Int} {i c : Int} (h : rd keys i ≠ c) : ofKey (order ++ [i]) keys c = ofKey order keys c := by
  unfold ofKey
  rw [List.filter_append, List.filter_cons_of_neg (by simpa using h)]
  simp
theorem ofKey_take_le (order keys : List Int) (c : Int) (m : Nat) : (ofKey (order.take m) keys c).length ≤ (ofKey order keys c).length :=
  ((List.take_sublist m order).filter _).length_le
theorem cnt_ofKey (order keys : List Int) {k c : Int} (h0 : 0 ≤ c) (h : c < k) : rd (cntV (order.map (rd keys)) k) c = (ofKey order keys c).length := by
  rw [rd_cntV h0 h, List.filter_map, List.length_map]
  rfl
theorem passK_len (order keys : List Int) {k : Int} : ∀ c : Nat, (c : Int) ≤ k → ps (cntV (order.map (rd keys)) k) c = (passK order keys c).length
  | 0, _ => rfl
  | c + 1, h => by
    rw [show ((c + 1 : Nat) : Int) = (c : Int) + 1 by omega, ps_succ (by omega) (by rw [cntV_len]; omega), passK_len order keys c (by omega), cnt_ofKey order keys (by omega) (by omega)]
    rw [passK, List.length_append]
    omega
theorem passK_mono (order keys : List Int) {c d : Nat} (h : c < d) : (passK order keys c).length + (ofKey order keys c).length ≤ (passK order keys d).length := by
  induction d with
  | zero => omega
  | succ d ih =>
    rw [passK, List.length_append]
    rcases Nat.lt_or_ge c d with a | a
    · have := ih a; omega
    · have : c = d := by omega
      subst this; omega
theorem passK_perm {order keys : List Int} {k : Nat} (hk : ∀ i ∈ order, 0 ≤ rd keys i ∧ rd keys i < k) : (passK order keys k).Perm order := by
  have gen : ∀ c : Nat, (passK order keys c).Perm (order.filter fun i => decide (0 ≤ rd keys i ∧ rd keys i < c)) := by
    intro c
    induction c with
    | zero =>
      have : (order.filter fun i => decide (0 ≤ rd keys i ∧ rd keys i < (0 : Nat))) = [] := by
        rw [List.filter_eq_nil_iff]
        intro i _
        simp only [decide_eq_true_eq]
        omega
      rw [this]
      exact .refl _
    | succ c ih =>
      rw [passK]
      refine (ih.append_right _).trans ?_
      unfold ofKey
      have e : order.filter (fun i => decide (rd keys i = (c : Int))) = (order.filter fun i => decide (0 ≤ rd keys i ∧ rd keys i < (c + 1 : Nat))).filter (fun i => ! decide (0 ≤ rd keys i ∧ rd keys i < (c : Int))) := by
        rw [List.filter_filter]
        refine List.filter_congr fun i _ => ?_
        by_cases h : rd keys i = (c : Int)
        · rw [decide_eq_true h, decide_eq_true (show 0 ≤ rd keys i ∧ rd keys i < ((c + 1 : Nat) : Int) by omega), decide_eq_false (show ¬ (0 ≤ rd keys i ∧ rd keys i < (c : Int)) by omega)]
          rfl
        · rw [decide_eq_false h]
          by_cases h2 : 0 ≤ rd keys i ∧ rd keys i < (c : Int)
          · rw [decide_eq_true h2]; simp
          · rw [decide_eq_false (show ¬ (0 ≤ rd keys i ∧ rd keys i < ((c + 1 : Nat) : Int)) by omega)]; simp
      have e2 : order.filter (fun i => decide (0 ≤ rd keys i ∧ rd keys i < (c : Nat))) = (order.filter fun i => decide (0 ≤ rd keys i ∧ rd keys i < (c + 1 : Nat))).filter (fun i => decide (0 ≤ rd keys i ∧ rd keys i < (c : Int))) := by
        rw [List.filter_filter]
        refine List.filter_congr fun i _ => ?_
        by_cases h2 : 0 ≤ rd keys i ∧ rd keys i < (c : Int)
        · rw [decide_eq_true h2, decide_eq_true (show 0 ≤ rd keys i ∧ rd keys i < ((c + 1 : Nat) : Int) by omega)]; rfl
        · rw [decide_eq_false h2]; rfl
      rw [e, e2]
      exact List.filter_append_perm _ _
  have := gen k
  rwa [List.filter_eq_self.2 (fun i hi => by rw [decide_eq_true_iff]; exact hk i hi)] at this
/-- What stands at each key's places is what has it. -/
theorem passK_eq {order keys l : List Int} : ∀ k : Nat, (passK order keys k).length ≤ l.length → (∀ c : Nat, c < k → ∀ t : Nat, t < (ofKey order keys c).length → rd l ((passK order keys c).length + t) = rd (ofKey order keys c) t) → l.take (passK order keys k).length = passK order keys k
  | 0, _, _ => rfl
  | k + 1, hl, h => by
    have ih := passK_eq (order := order) (keys := keys) (l := l) k (by rw [passK, List.length_append] at hl; omega) fun c hc => h c (by omega)
    rw [passK, List.length_append] at hl ⊢
    rw [List.take_add, ih]
    congr 1
    refine list_ext_rd (by rw [List.length_take, List.length_drop]; omega) fun j h1 h2 => ?_
    rw [List.length_take, List.length_drop] at h2
    have := h k (by omega) j.toNat (by omega)
    rw [show ((j.toNat : Nat) : Int) = j by omega] at this
    rw [← this]
    unfold rd
    rw [List.getD_eq_getElem?_getD, List.getD_eq_getElem?_getD, List.getElem?_take, if_pos (by omega), List.getElem?_drop]
    congr 2
    omega
/-- The loop that lays them out: what it keeps. -/
structure PassI (order keys at_ l : List Int) (k : Int) (m : Int) : Prop where
  len : l.length = order.length
  alen : at_.length = k.toNat
  at_ : ∀ c : Int, 0 ≤ c → c < k → rd at_ c = (passK order keys c.toNat).length + (ofKey (order.take m.toNat) keys c).length
  row : ∀ c : Int, 0 ≤ c → c < k → ∀ t : Int, 0 ≤ t → t < (ofKey (order.take m.toNat) keys c).length → rd l ((passK order keys c.toNat).length + t) = rd (ofKey (order.take m.toNat) keys c) t
theorem passI_zero {order keys : List Int} {k : Int} : PassI order keys (startsV (cntV (order.map (rd keys)) k)) (List.replicate order.length 0) k 0 := by
  refine ⟨by simp, by rw [startsV_len, cntV_len], fun c h0 h => ?_, fun c _ _ t _ ht => ?_⟩
  · rw [rd_startsV h0 (by rw [cntV_len]; omega)]
    have := passK_len order keys (k := k) c.toNat (by omega)
    rw [show ((c.toNat : Nat) : Int) = c by omega] at this
    rw [this]
    simp [ofKey]
  · simp [ofKey] at ht
    omega
theorem passK_top {order keys : List Int} {k : Int} (hk : ∀ i ∈ order, 0 ≤ rd keys i ∧ rd keys i < k) : (passK order keys k.toNat).length = order.length := (passK_perm (k := k.toNat) fun i hi => by have := hk i hi; omega).length_eq
theorem PassI.lt {order keys at_ l : List Int} {k m : Int} (h : PassI order keys at_ l k m) (hk : ∀ i ∈ order, 0 ≤ rd keys i ∧ rd keys i < k) (h0 : 0 ≤ m) (hm : m < order.length) : 0 ≤ rd at_ (rd keys (rd order m)) ∧ rd at_ (rd keys (rd order m)) < l.length := by
  have hi := hk _ (rd_mem h0 hm)
  rw [h.at_ _ hi.1 hi.2, h.len]
  have e : order.take (m + 1).toNat = order.take m.toNat ++ [rd order m] := take_rd h0 hm
  have h1 := ofKey_take_le order keys (rd keys (rd order m)) (m + 1).toNat
  rw [e, ofKey_snoc_same rfl, List.length_append, List.length_singleton] at h1
  have h2 := passK_mono order keys (c := (rd keys (rd order m)).toNat) (d := k.toNat) (by omega)
  rw [passK_top hk, show (((rd keys (rd order m)).toNat : Nat) : Int) = rd keys (rd order m) by omega] at h2
  omega
theorem PassI.step {order keys at_ l : List Int} {k m : Int} (h : PassI order keys at_ l k m) (hk : ∀ i ∈ order, 0 ≤ rd keys i ∧ rd keys i < k) (h0 : 0 ≤ m) (hm : m < order.length) : PassI order keys (upd at_ (rd keys (rd order m)) (rd at_ (rd keys (rd order m)) + 1)) (upd l (rd at_ (rd keys (rd order m))) (rd order m)) k (m + 1) := by
  have hi := hk _ (rd_mem h0 hm)
  have hlt := h.lt hk h0 hm
  have e : order.take (m + 1).toNat = order.take m.toNat ++ [rd order m] := take_rd h0 hm
  have hat := h.at_ _ hi.1 hi.2
  refine ⟨by rw [upd_length]; exact h.len, by rw [upd_length]; exact h.alen, fun c c0 c1 => ?_, fun c c0 c1 t t0 t1 => ?_⟩
  · rw [rd_upd hi.1 c0 (by rw [h.alen]; omega), e]
    by_cases hc : c = rd keys (rd order m)
    · rw [if_pos hc, hat, ofKey_snoc_same hc.symm, List.length_append, hc]
      simp only [List.length_singleton]
      omega
    · rw [if_neg hc, h.at_ c c0 c1, ofKey_snoc_other fun h => hc h.symm]
  · rw [e] at t1 ⊢
    have hfull : ∀ c : Int, (ofKey (order.take m.toNat ++ [rd order m]) keys c).length ≤ (ofKey order keys c).length := fun c => by rw [← e]; exact ofKey_take_le _ _ _ _
    rw [rd_upd hlt.1 (by omega) hlt.2, hat]
    by_cases hc : c = rd keys (rd order m)
    · subst hc
      rw [ofKey_snoc_same rfl] at t1 ⊢
      rw [List.length_append, List.length_singleton] at t1
      by_cases ht : t = (ofKey (order.take m.toNat) keys (rd keys (rd order m))).length
      · rw [if_pos (by omega), rd_append_one ht]
      · rw [if_neg (by omega), rd_append_left t0 (by omega)]
        exact h.row _ c0 c1 t t0 (by omega)
    · rw [ofKey_snoc_other fun h => hc h.symm] at t1 ⊢
      rw [if_neg, h.row c c0 c1 t t0 t1]
      intro heq
      have f1 := hfull c
      rw [ofKey_snoc_other fun h => hc h.symm] at f1
      have f2 := hfull (rd keys (rd order m))
      rw [ofKey_snoc_same rfl, List.length_append, List.length_singleton] at f2
      rcases Int.lt_or_lt_of_ne hc with a | a
      · have := passK_mono order keys (c := c.toNat) (d := (rd keys (rd order m)).toNat) (by omega)
        rw [show ((c.toNat : Nat) : Int) = c by omega] at this
        omega
      · have := passK_mono order keys (c := (rd keys (rd order m)).toNat) (d := c.toNat) (by omega)
        rw [show (((rd keys (rd order m)).toNat : Nat) : Int) = rd keys (rd order m) by omega] at this
        omega
theorem PassI.done {order keys at_ l : List Int} {k m : Int} (h : PassI order keys at_ l k m) (hk : ∀ i ∈ order, 0 ≤ rd keys i ∧ rd keys i < k) (hm : m = order.length) : l = passK order keys k.toNat := by
  have ht : order.take m.toNat = order := List.take_of_length_le (by omega)
  have := passK_eq (order := order) (keys := keys) (l := l) k.toNat (by rw [passK_top hk, h.len]; exact Nat.le_refl _) fun c hc t htc => by
    have hr := h.row c (by omega) (by omega) t (by omega)
    rw [ht] at hr
    exact hr (by omega)
  rw [passK_top hk, ← h.len, List.take_length] at this
  exact this
/-- Two places of an order, sorted by their keys: by the key; then as they stood. -/
theorem passK_sorted {order keys : List Int} {r : Int → Int → Prop} (ho : order.Pairwise r) : ∀ k : Nat, (passK order keys k).Pairwise fun x y => rd keys x < rd keys y ∨ rd keys x = rd keys y ∧ r x y
  | 0 => .nil
  | k + 1 => by
    rw [passK]
    refine List.pairwise_append.2 ⟨passK_sorted ho k, ?_, fun x hx y hy => ?_⟩
    · refine ((ho.sublist (List.filter_sublist ..)).imp_of_mem fun {x y} hx hy h => ?_ : (ofKey order keys k).Pairwise _)
      have h1 := (List.mem_filter.1 hx).2
      have h2 := (List.mem_filter.1 hy).2
      rw [decide_eq_true_iff] at h1 h2
      exact .inr ⟨by omega, h⟩
    · have h2 := (List.mem_filter.1 hy).2
      rw [decide_eq_true_iff] at h2
      have : ∀ c : Nat, ∀ z ∈ passK order keys c, rd keys z < c := by
        intro c
        induction c with
        | zero => intro z hz; cases hz
        | succ c ih =>
          intro z hz
          rw [passK] at hz
          rcases List.mem_append.1 hz with hz | hz
          · have := ih z hz; omega
          · have h3 := (List.mem_filter.1 hz).2
            rw [decide_eq_true_iff] at h3
            omega
      have := this k x hx
      exact .inl (by omega)
theorem cntV_bound {ks : List Int} {k x : Int} : 0 ≤ rd (cntV ks k) x ∧ rd (cntV ks k) x ≤ ks.length := by
  by_cases h : x.toNat < k.toNat
  · have e : rd (cntV ks k) x = ((ks.filter fun y => decide (y = (x.toNat : Int))).length : Int) := by
      unfold rd cntV
      rw [List.getD_eq_getElem?_getD, List.getElem?_map, List.getElem?_range h]
      rfl
    have := List.length_filter_le (fun y => decide (y = (x.toNat : Int))) ks
    omega
  · have e : rd (cntV ks k) x = 0 := by
      unfold rd
      rw [List.getD_eq_getElem?_getD, List.getElem?_eq_none (by rw [cntV_len]; omega)]
      rfl
    omega
theorem sum_nonneg : ∀ {L : List Int}, (∀ x ∈ L, 0 ≤ x) → 0 ≤ L.sum
  | [], _ => by simp
  | x :: L, h => by
    have a := h x (by simp)
    have b := sum_nonneg (L := L) fun y hy => h y (List.mem_cons_of_mem _ hy)
    rw [List.sum_cons]
    omega
theorem ps_bound {L : List Int} (h : ∀ x ∈ L, 0 ≤ x) (k : Int) : 0 ≤ ps L k ∧ ps L k ≤ L.sum := by
  have e : L.sum = (L.take k.toNat).sum + (L.drop k.toNat).sum := by rw [← List.sum_append, List.take_append_drop]
  have a := sum_nonneg (L := L.take k.toNat) fun y hy => h y (List.mem_of_mem_take hy)
  have b := sum_nonneg (L := L.drop k.toNat) fun y hy => h y (List.mem_of_mem_drop hy)
  unfold ps
  omega
theorem cntV_nonneg (ks : List Int) (k : Int) : ∀ x ∈ cntV ks k, 0 ≤ x := by
  intro x hx
  obtain ⟨c, _, rfl⟩ := List.mem_map.1 hx
  omega
theorem cntV_sum {order keys : List Int} {k : Int} (h0 : 0 ≤ k) (hk : ∀ i ∈ order, 0 ≤ rd keys i ∧ rd keys i < k) : (cntV (order.map (rd keys)) k).sum = order.length := by
  have := passK_len order keys (k := k) k.toNat (by omega)
  rw [ps_all (by rw [cntV_len]; omega), passK_top hk] at this
  exact this
/-- A row that is filled from the left. -/
theorem fill_step {V : List Int} {f : Int → Int} {i v : Int} (h0 : 0 ≤ i) (hi : i < V.length) (h : ∀ j : Int, 0 ≤ j → j < i → rd V j = f j) (hv : v = f i) : ∀ j : Int, 0 ≤ j → j < i + 1 → rd (upd V i v) j = f j := by
  intro j j0 j1
  rw [rd_upd h0 j0 hi]
  by_cases e : j = i
  · rw [if_pos e, e, hv]
  · rw [if_neg e]
    exact h j j0 (by omega)
end Go.Pure
