/-
  Plain laws: a text cut into its factors, and turned. Own work.
-/
import Derived.Test.YtdfcnalkdlifiaaQ11
import Derived.Test.YtdfcnalkdlifiaaQ12
namespace Go.Pure
open Go Go.Eng
/-- How much the first k numbers come to. -/
def ps (L : List Int) (k : Int) : Int := (L.take k.toNat).sum
theorem ps_zero (L : List Int) : ps L 0 = 0 := rfl
theorem ps_succ {L : List Int} {k : Int} (h0 : 0 ≤ k) (h : k < L.length) : ps L (k + 1) = ps L k + rd L k := by
  unfold ps
  rw [take_rd h0 h, List.sum_append]
  simp
theorem ps_all {L : List Int} {k : Int} (h : L.length ≤ k) : ps L k = L.sum := by
  unfold ps
  rw [List.take_of_length_le (by omega)]
/-- The texts of these lengths, one behind the other. -/
def wordsK (s L : List Int) (k : Int) : List (List Int) := (List.range k.toNat).map fun i : Nat => (s.drop (ps L i).toNat).take (rd L i).toNat
theorem wordsK_zero (s L : List Int) : wordsK s L 0 = [] := rfl
theorem wordsK_succ {s L : List Int} {k : Int} (h0 : 0 ≤ k) : wordsK s L (k + 1) = wordsK s L k ++ [(s.drop (ps L k).toNat).take (rd L k).toNat] := by
  unfold wordsK
  rw [show (k + 1).toNat = k.toNat + 1 by omega, List.range_succ, List.map_append]
  simp only [List.map_cons, List.map_nil]
  rw [show ((k.toNat : Nat) : Int) = k by omega]
theorem wordsK_len (s L : List Int) (k : Int) : (wordsK s L k).length = k.toNat := by simp [wordsK]
theorem sum_pos : ∀ {L : List Int}, (∀ x ∈ L, 0 < x) → (L.length : Int) ≤ L.sum
  | [], _ => by simp
  | x :: L, h => by
    have a := h x (by simp)
    have b := sum_pos (L := L) fun y hy => h y (List.mem_cons_of_mem _ hy)
    simp only [List.length_cons, List.sum_cons]
    omega
theorem sum_take_le {L : List Int} (h : ∀ x ∈ L, 0 < x) (k : Nat) : (L.take k).sum ≤ L.sum := by
  have e : L.sum = (L.take k).sum + (L.drop k).sum := by rw [← List.sum_append, List.take_append_drop]
  have := sum_pos (L := L.drop k) fun y hy => h y (List.mem_of_mem_drop hy)
  omega
theorem ps_nonneg {L : List Int} (h : ∀ x ∈ L, 0 < x) (k : Int) : 0 ≤ ps L k := by
  have := sum_pos (L := L.take k.toNat) fun y hy => h y (List.mem_of_mem_take hy)
  unfold ps
  omega
theorem rd_mem {L : List Int} {k : Int} (h0 : 0 ≤ k) (h : k < L.length) : rd L k ∈ L := by
  unfold rd
  rw [List.getD_eq_getElem?_getD, List.getElem?_eq_getElem (by omega)]
  exact List.getElem_mem _
theorem wordsK_flat {s L : List Int} (hL : ∀ x ∈ L, 0 < x) (hs : L.sum ≤ s.length) : ∀ k : Nat, k ≤ L.length → (wordsK s L k).flatten = s.take (ps L k).toNat
  | 0, _ => rfl
  | k + 1, hk => by
    have h0 : (0 : Int) ≤ (k : Int) := by omega
    have hk' : (k : Int) < L.length := by omega
    have hp := ps_nonneg hL k
    have hr := hL _ (rd_mem h0 hk')
    have e : ((k + 1 : Nat) : Int) = (k : Int) + 1 := by omega
    rw [e, wordsK_succ h0, List.flatten_append, wordsK_flat hL hs k (by omega), ps_succ h0 hk', show (ps L k + rd L k).toNat = (ps L k).toNat + (rd L k).toNat by omega, List.take_add]
    simp
theorem facs_pos : ∀ (f : Nat) (s : List Int), ∀ x ∈ facs f s, 0 < x
  | 0, s, x, h => by cases h
  | f + 1, s, x, h => by
    unfold facs at h
    cases s with
    | nil => cases h
    | cons a s =>
      simp only [List.isEmpty_cons, Bool.false_eq_true, if_false] at h
      rcases List.mem_cons.1 h with rfl | h
      · have := lynLen_pos (s := a :: s) (by simp) (a :: s).length (by simp)
        omega
      · exact facs_pos f _ x h
theorem facL_pos (s : List Int) : ∀ x ∈ facL s, 0 < x := facs_pos _ _
theorem facs_sum : ∀ (f : Nat) (s : List Int), s.length ≤ f → (facs f s).sum = s.length
  | 0, s, h => by
    have : s = [] := List.length_eq_zero_iff.1 (by omega)
    subst this
    rfl
  | f + 1, s, h => by
    unfold facs
    cases s with
    | nil => rfl
    | cons a s =>
      simp only [List.isEmpty_cons, Bool.false_eq_true, if_false]
      have h1 := lynLen_pos (s := a :: s) (by simp) (a :: s).length (by simp)
      have h2 := lynLen_le (a :: s) (a :: s).length
      rw [List.sum_cons, facs_sum f _ (by rw [List.length_drop]; omega), List.length_drop]
      omega
theorem facL_sum (s : List Int) : (facL s).sum = s.length := facs_sum _ _ (Nat.le_refl _)
theorem facL_len (s : List Int) : (facL s).length ≤ s.length := by
  have := sum_pos (facL_pos s)
  have := facL_sum s
  omega
theorem ps_le (s : List Int) (k : Int) : ps (facL s) k ≤ s.length := by
  have := sum_take_le (facL_pos s) k.toNat
  have := facL_sum s
  unfold ps
  omega
/-- A text's factors. -/
def bws (s : List Int) : List (List Int) := wordsK s (facL s) (facL s).length
theorem bws_flat (s : List Int) : (bws s).flatten = s := by
  unfold bws
  rw [wordsK_flat (facL_pos s) (by rw [facL_sum]; omega) _ (Nat.le_refl _), ps_all (Int.le_refl _), facL_sum]
  simp
theorem bws_len (s : List Int) : (bws s).length = (facL s).length := by unfold bws; rw [wordsK_len]; omega
theorem all_len {ws : List (List Int)} {l : List (Int × Int)} (hp : l.Perm (tlist ws ws.length)) : l.length = ws.flatten.length := by
  rw [hp.length_eq, tlist_len ws _ (Nat.le_refl _)]
  unfold offs
  rw [List.take_length]
theorem bws_all {s : List Int} {l : List (Int × Int)} (hp : l.Perm (tlist (bws s) (bws s).length)) : l.length = s.length := by rw [all_len hp, bws_flat]
/-- The last byte of a rotation. -/
def lastB (ws : List (List Int)) (t : Int × Int) : Int := rd (rdl ws t.1) ((t.2 + (rdl ws t.1).length - 1) % ((rdl ws t.1).length : Int))
theorem lastB_mem {ws : List (List Int)} {t : Int × Int} (h : TV ws t) : lastB ws t ∈ ws.flatten := by
  obtain ⟨a, b, c, d⟩ := h
  have hn : (0 : Int) < (rdl ws t.1).length := by omega
  have h1 := Int.emod_nonneg (t.2 + (rdl ws t.1).length - 1) (Int.ne_of_gt hn)
  have h2 := Int.emod_lt_of_pos (t.2 + (rdl ws t.1).length - 1) hn
  exact List.mem_flatten.2 ⟨_, rdl_mem a b, rd_mem h1 h2⟩
theorem lastB_bytes {ws : List (List Int)} {l : List (Int × Int)} (hp : l.Perm (tlist ws ws.length)) (hb : ByteL ws.flatten) : ByteL (l.map (lastB ws)) := by
  intro x hx
  obtain ⟨t, ht, rfl⟩ := List.mem_map.1 hx
  exact hb _ (lastB_mem (mem_all.1 (hp.subset ht)))
/-- A word's last bytes are its bytes. -/
theorem last_word (ws : List (List Int)) (k : Int) : ((turnsOf k (rdl ws k).length).map (lastB ws)).Perm (rdl ws k) := by
  let w := rdl ws k
  show ((turnsOf k w.length).map (lastB ws)).Perm w
  have e : (turnsOf k w.length).map (lastB ws) = w.drop (w.length - 1) ++ w.take (w.length - 1) := by
    apply List.ext_getElem
    · simp [turnsOf]
      try omega
    · intro i h1 h2
      simp only [turnsOf, List.map_map, List.length_map, List.length_range] at h1
      simp only [turnsOf, List.getElem_map, List.getElem_range]
      have hw : lastB ws (k, (i : Int)) = rd w (((i : Int) + w.length - 1) % (w.length : Int)) := rfl
      rw [hw]
      have hb : rd w (((i : Int) + w.length - 1) % (w.length : Int)) = w.getD ((i + (w.length - 1)) % w.length) 0 := by
        unfold rd
        congr 1
        rw [show ((i : Int) + w.length - 1) = ((i + (w.length - 1) : Nat) : Int) by omega, ← Int.natCast_emod]
        omega
      rw [hb]
      rcases Nat.eq_zero_or_pos i with z | z
      · subst z
        have hm : (0 + (w.length - 1)) % w.length = w.length - 1 := by rw [Nat.zero_add, Nat.mod_eq_of_lt (by omega)]
        rw [hm, List.getElem_append_left (by rw [List.length_drop]; omega), List.getElem_drop, List.getD_eq_getElem?_getD, List.getElem?_eq_getElem (by omega)]
        rfl
      · have hm : (i + (w.length - 1)) % w.length = i - 1 := by
          rw [show i + (w.length - 1) = (i - 1) + w.length by omega, Nat.add_mod_right, Nat.mod_eq_of_lt (by omega)]
        have hl : (w.drop (w.length - 1)).length = 1 := by rw [List.length_drop]; omega
        rw [hm, List.getElem_append_right (by omega), List.getElem_take, List.getD_eq_getElem?_getD, List.getElem?_eq_getElem (by omega)]
        simp only [hl, Option.getD_some]
  rw [e]
  refine List.perm_append_comm.trans ?_
  rw [List.take_append_drop]
theorem last_all (ws : List (List Int)) : ∀ k : Nat, k ≤ ws.length → ((tlist ws k).map (lastB ws)).Perm (ws.take k).flatten
  | 0, _ => by simp [tlist]
  | k + 1, h => by
    have e := tlist_succ (ws := ws) (k := (k : Int)) (by omega)
    rw [show ((k : Int) + 1).toNat = k + 1 by omega, show ((k : Int)).toNat = k by omega] at e
    have f := flat_take_succ (ws := ws) (k := (k : Int)) (by omega) (by omega)
    rw [show ((k : Int) + 1).toNat = k + 1 by omega, show ((k : Int)).toNat = k by omega] at f
    rw [e, f, List.map_append]
    exact (last_all ws k (by omega)).append (last_word ws k)
theorem last_perm {ws : List (List Int)} {l : List (Int × Int)} (hp : l.Perm (tlist ws ws.length)) : (l.map (lastB ws)).Perm ws.flatten := by
  have := last_all ws ws.length (Nat.le_refl _)
  rw [List.take_length] at this
  exact (hp.map _).trans this
/-- The order, by what can be worked out. -/
def ordB (ws : List (List Int)) (t u : Int × Int) : Bool := decide (cmpO (turnL ws t) (turnL ws u) < 0) || (decide (cmpO (turnL ws t) (turnL ws u) = 0) && (decide (t.1 < u.1) || (decide (t.1 = u.1) && decide (t.2 < u.2))))
theorem turnL_len {ws : List (List Int)} {t : Int × Int} (h : TV ws t) : 0 < (turnL ws t).length := by
  obtain ⟨a, b, c, d⟩ := h
  unfold turnL
  rw [List.length_append, List.length_drop, List.length_take]
  omega
theorem ordB_ord {ws : List (List Int)} {t u : Int × Int} (ht : TV ws t) (hu : TV ws u) (h : ordB ws t u = true) : ordO ws t u := by
  unfold ordB at h
  simp only [Bool.or_eq_true, Bool.and_eq_true, decide_eq_true_iff] at h
  rcases h with h | ⟨e, h⟩
  · exact .inl ((cmp_turn ht hu).1 h)
  · refine .inr ⟨fun i => ?_, h⟩
    have := (cmpO_zero (turnL_len ht) (turnL_len hu)).1 e i
    rw [show turnL ws t = (rdl ws t.1).drop t.2.toNat ++ (rdl ws t.1).take t.2.toNat from rfl, show turnL ws u = (rdl ws u.1).drop u.2.toNat ++ (rdl ws u.1).take u.2.toNat from rfl, om_tw ht, om_tw hu] at this
    exact this
/-- Which row of rotations is the one in order. -/
theorem the_order {ws : List (List Int)} {l m : List (Int × Int)} (hp : l.Perm (tlist ws ws.length)) (hs : l.Pairwise (ordO ws)) (hm : m.Perm (tlist ws ws.length)) (ho : m.Pairwise fun t u => ordB ws t u = true) : l = m := by
  refine one_order ordO_asymm (hp.trans hm.symm) hs ?_
  refine List.Pairwise.imp_of_mem (fun {a b} ha hb h => ordB_ord (mem_all.1 (hm.subset ha)) (mem_all.1 (hm.subset hb)) h) ho
/-- A word that is less than all its endings is first of all its rotations. -/
theorem lyn_first {s : List Int} (hL : LynB s = true) {l : List (Int × Int)} (hp : l.Perm (tlist (bws s) (bws s).length)) (hs : l.Pairwise (ordO (bws s))) : 0 < l.length ∧ lastB (bws s) (rdp l 0) = rd s (s.length - 1) := by
  have hpos := ((LynB_iff s).1 hL).1
  have hlen : lynLen s s.length = s.length := lynLen_eq (by rw [List.take_length]; exact hL) _ (Nat.le_refl _) fun m h1 h2 => by omega
  have hf : facL s = [(s.length : Int)] := by
    rw [facL_cons hpos, hlen, List.drop_length]
    rfl
  have hb : bws s = [s] := by
    unfold bws
    rw [hf]
    show [(s.drop (ps [(s.length : Int)] ((0 : Nat) : Int)).toNat).take (rd [(s.length : Int)] ((0 : Nat) : Int)).toNat] = [s]
    have e1 : ps [(s.length : Int)] ((0 : Nat) : Int) = 0 := rfl
    have e2 : rd [(s.length : Int)] ((0 : Nat) : Int) = s.length := rfl
    rw [e1, e2]
    simp
  rw [hb] at hp hs ⊢
  have h0 : TV [s] (0, 0) := ⟨by simp, by simp, by simp, by show (0 : Int) < s.length; omega⟩
  have hm := hp.symm.subset (mem_all.2 h0)
  have hl : 0 < l.length := List.length_pos_of_mem hm
  refine ⟨hl, ?_⟩
  have hfirst : rdp l 0 = (0, 0) := by
    obtain ⟨t, l', rfl⟩ : ∃ t l', l = t :: l' := by cases l with
      | nil => simp at hl
      | cons t l' => exact ⟨t, l', rfl⟩
    show t = (0, 0)
    rcases List.mem_cons.1 hm with e | hm'
    · exact e.symm
    · exfalso
      have ho := (List.pairwise_cons.1 hs).1 _ hm'
      have ht := mem_all.1 (hp.subset (List.mem_cons_self (a := t) (l := l')))
      obtain ⟨a, b, c, d⟩ := ht
      have e1 : t.1 = 0 := by simp at b; omega
      have hr : rdl [s] t.1 = s := by rw [e1]; rfl
      rw [hr] at d
      rcases ho with ho | ⟨_, ho⟩
      · obtain ⟨r, hr2⟩ : ∃ r : Nat, t.2 = r := ⟨t.2.toNat, by omega⟩
        rcases Nat.eq_zero_or_pos r with z | z
        · subst z
          have : t = (0, 0) := Prod.ext e1 hr2
          rw [this] at ho
          exact ho.asymm ho
        · have hd := (LynB_iff s).1 hL |>.2 r z (by omega)
          obtain ⟨d', h1, h2, h3⟩ := (cmpL_neg_iff s (s.drop r) (by rw [List.length_drop]; omega)).1 hd
          rw [List.length_drop] at h1
          have tw0 : ∀ i, i < s.length → tw [s] (0, 0) i = lt s i := fun i hi => by
            show s.getD ((0 + i) % s.length) 0 = s.getD i 0
            rw [Nat.zero_add, Nat.mod_eq_of_lt hi]
          have twr : ∀ i, r + i < s.length → tw [s] t i = lt s (r + i) := fun i hi => by
            show (rdl [s] t.1).getD ((t.2.toNat + i) % (rdl [s] t.1).length) 0 = s.getD (r + i) 0
            rw [hr, show t.2.toNat = r by omega, Nat.mod_eq_of_lt hi]
          refine ho.asymm ⟨d', fun i hi => ?_, ?_⟩
          · rw [tw0 i (by omega), twr i (by omega), h2 i hi, lt_drop]
          · rw [tw0 d' (by omega), twr d' (by omega), ← lt_drop]; exact h3
      · rcases ho with ho | ⟨_, ho⟩
        · simp only at ho; omega
        · simp only at ho; omega
  rw [hfirst]
  show rd (rdl [s] 0) ((0 + (rdl [s] 0).length - 1) % ((rdl [s] 0).length : Int)) = _
  have hr : rdl [s] 0 = s := rfl
  rw [hr]
  congr 1
  rw [Int.zero_add, Int.emod_eq_of_lt (by omega) (by omega)]
end Go.Pure
