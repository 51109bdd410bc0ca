/-
  Plain laws: all rotations, where their ranks stand, and the one order. Own work.
-/
import Derived.Test.YtdfcnalkdlifiaaQ8
namespace Go.Pure
open Go Go.Eng
theorem mem_turnsOf {w : Int} {j : Nat} {t : Int × Int} : t ∈ turnsOf w j ↔ t.1 = w ∧ 0 ≤ t.2 ∧ t.2 < j := by
  unfold turnsOf
  rw [List.mem_map]
  constructor
  · rintro ⟨i, hi, rfl⟩
    rw [List.mem_range] at hi
    exact ⟨rfl, by simp only; omega, by simp only; omega⟩
  · rintro ⟨rfl, h1, h2⟩
    refine ⟨t.2.toNat, List.mem_range.2 (by omega), ?_⟩
    rw [Int.toNat_of_nonneg h1]
theorem mem_tlist {ws : List (List Int)} {t : Int × Int} : ∀ {k : Nat}, t ∈ tlist ws k ↔ (0 ≤ t.1 ∧ t.1 < k) ∧ 0 ≤ t.2 ∧ t.2 < (rdl ws t.1).length
  | 0 => by
    constructor
    · intro h; cases h
    · rintro ⟨h, _⟩; omega
  | k + 1 => by
    show t ∈ tlist ws k ++ turnsOf k (rdl ws k).length ↔ _
    rw [List.mem_append, mem_tlist, mem_turnsOf]
    constructor
    · rintro (⟨h1, h2⟩ | ⟨h1, h2, h3⟩)
      · exact ⟨⟨h1.1, by omega⟩, h2⟩
      · rw [h1]; exact ⟨⟨by omega, by omega⟩, h2, h3⟩
    · rintro ⟨h1, h2, h3⟩
      by_cases e : t.1 = k
      · exact .inr ⟨e, h2, by rw [e] at h3; exact h3⟩
      · exact .inl ⟨⟨h1.1, by omega⟩, h2, h3⟩
theorem mem_all {ws : List (List Int)} {t : Int × Int} : t ∈ tlist ws ws.length ↔ TV ws t := by
  rw [mem_tlist]
  unfold TV
  constructor
  · rintro ⟨⟨a, b⟩, c, d⟩; exact ⟨a, b, c, d⟩
  · rintro ⟨a, b, c, d⟩; exact ⟨⟨a, b⟩, c, d⟩
theorem turnsOf_nodup (w : Int) (j : Nat) : (turnsOf w j).Nodup := by
  unfold turnsOf
  refine List.pairwise_map.2 ((List.nodup_range (n := j)).imp fun {a b} h e => h ?_)
  simp only [Prod.mk.injEq, true_and] at e
  omega
theorem tlist_nodup (ws : List (List Int)) : ∀ k, (tlist ws k).Nodup
  | 0 => .nil
  | k + 1 => by
    refine List.nodup_append.2 ⟨tlist_nodup ws k, turnsOf_nodup _ _, fun a ha b hb e => ?_⟩
    subst e
    have h1 := (mem_tlist.1 ha).1
    have h2 := (mem_turnsOf.1 hb).1
    omega
theorem offs_mono {ws : List (List Int)} {i j : Nat} (h : i ≤ j) : offs ws i ≤ offs ws j := by
  unfold offs
  obtain ⟨d, rfl⟩ : ∃ d, j = i + d := ⟨j - i, by omega⟩
  rw [List.take_add, List.flatten_append, List.length_append]
  omega
theorem rd_blist {ws : List (List Int)} {k : Nat} {i : Int} (h0 : 0 ≤ i) (h : i < k) : rd (blist ws k) i = offs ws i.toNat := by
  have hi : i.toNat < k := by omega
  simp [rd, blist, List.getD_eq_getElem?_getD, hi]
theorem rd_flat {ws : List (List Int)} {w j : Int} (h0 : 0 ≤ w) (h1 : w < ws.length) (h2 : 0 ≤ j) (h3 : j < (rdl ws w).length) : rd ws.flatten (offs ws w.toNat + j) = rd (rdl ws w) j := by
  have e : ws.flatten = (ws.take w.toNat).flatten ++ (ws.drop w.toNat).flatten := by
    rw [← List.flatten_append, List.take_append_drop]
  rw [e, rdl_drop h0 h1, List.flatten_cons]
  unfold rd
  rw [List.getD_eq_getElem?_getD, List.getElem?_append_right (by unfold offs; omega), List.getElem?_append_left (by unfold offs; omega), List.getD_eq_getElem?_getD]
  congr 2
  unfold offs
  omega
theorem posT_eq {ws : List (List Int)} {t : Int × Int} (ht : TV ws t) : posT (blist ws ws.length) t = offs ws t.1.toNat + t.2 := by
  unfold posT
  rw [rd_blist ht.1 ht.2.1]
theorem posT_inj {ws : List (List Int)} {t u : Int × Int} (ht : TV ws t) (hu : TV ws u) (h : posT (blist ws ws.length) t = posT (blist ws ws.length) u) : t = u := by
  rw [posT_eq ht, posT_eq hu] at h
  obtain ⟨a1, a2, a3, a4⟩ := ht
  obtain ⟨b1, b2, b3, b4⟩ := hu
  have o1 := offs_succ a1 a2
  have o2 := offs_succ b1 b2
  have e : t.1 = u.1 := by
    rcases Int.lt_trichotomy t.1 u.1 with x | x | x
    · have := offs_mono (ws := ws) (show (t.1 + 1).toNat ≤ u.1.toNat by omega); omega
    · exact x
    · have := offs_mono (ws := ws) (show (u.1 + 1).toNat ≤ t.1.toNat by omega); omega
  rw [e] at h
  exact Prod.ext e (by omega)
theorem all_tok {ws : List (List Int)} (hN : ws.flatten.length ≤ 1000000) {t : Int × Int} (ht : TV ws t) : TOk ws (blist ws ws.length) ws.flatten.length t := by
  obtain ⟨a1, a2, a3, a4⟩ := ht
  have o1 := offs_succ a1 a2
  have o2 := offs_le ws (t.1 + 1).toNat
  have e := rd_blist (ws := ws) a1 a2
  have hb := blist_len ws ws.length
  refine ⟨⟨a1, a2, by omega⟩, ⟨a3, a4, by omega⟩, by omega, ?_⟩
  rw [e]
  omega
/-- The letters themselves are ranks by one letter. -/
theorem rk_first (ws : List (List Int)) : RK ws (blist ws ws.length) 1 ws.flatten := by
  intro t u ht hu
  have one : ∀ t, TV ws t → rd ws.flatten (posT (blist ws ws.length) t) = tw ws t 0 := by
    intro t ht
    rw [posT_eq ht, rd_flat ht.1 ht.2.1 ht.2.2.1 ht.2.2.2]
    obtain ⟨a1, a2, a3, a4⟩ := ht
    unfold tw rd
    rw [Nat.add_zero, Nat.mod_eq_of_lt (by omega)]
  rw [one t ht, one u hu]
  constructor
  · constructor
    · exact fun h => ⟨0, by omega, fun i hi => by omega, h⟩
    · rintro ⟨k, hk, _, h⟩
      obtain rfl : k = 0 := by omega
      exact h
  · constructor
    · intro h i hi
      obtain rfl : i = 0 := by omega
      exact h
    · exact fun h => h 0 (by omega)
theorem tw_per {ws : List (List Int)} (t : Int × Int) : Per (tw ws t) (rdl ws t.1).length := by
  intro i
  unfold tw
  rw [← Nat.add_assoc, Nat.add_mod_right]
/-- The order that is asked: without end, then by word and place. -/
def ordO (ws : List (List Int)) (t u : Int × Int) : Prop := Lt (tw ws t) (tw ws u) ∨ (∀ i, tw ws t i = tw ws u i) ∧ ltI t u
theorem ord_long {ws : List (List Int)} {M : Nat} {t u : Int × Int} (hM : EqH M (tw ws t) (tw ws u) → ∀ i, tw ws t i = tw ws u i) : ordH ws M t u ↔ ordO ws t u := by
  unfold ordH ordO
  constructor
  · rintro (⟨k, _, h1, h2⟩ | ⟨e, h⟩)
    · exact .inl ⟨k, h1, h2⟩
    · exact .inr ⟨hM e, h⟩
  · rintro (⟨k, h1, h2⟩ | ⟨e, h⟩)
    · rcases tri M (tw ws t) (tw ws u) with a | a | ⟨m, _, g1, g2⟩
      · exact .inl a
      · have := hM a k; omega
      · exfalso
        by_cases x : k < m
        · have := g1 k x; omega
        · by_cases y : m < k
          · have := h1 m y; omega
          · have : k = m := by omega
            subst this; omega
    · exact .inr ⟨fun i _ => e i, h⟩
theorem eq_all_long {ws : List (List Int)} {M : Nat} {t u : Int × Int} (ht : TV ws t) (hu : TV ws u) (hM : (rdl ws t.1).length + (rdl ws u.1).length ≤ M) (h : EqH M (tw ws t) (tw ws u)) : ∀ i, tw ws t i = tw ws u i := by
  obtain ⟨a1, a2, a3, a4⟩ := ht
  obtain ⟨b1, b2, b3, b4⟩ := hu
  exact agree (by omega) (by omega) (tw_per t) (tw_per u) fun i hi => h i (by omega)
/-- If no two that agree on h letters are parted by twice as many, they agree for ever. -/
theorem eq_all_stay {ws : List (List Int)} {h : Int} (h0 : 0 < h) (hst : ∀ t u, TV ws t → TV ws u → EqH (curH h) (tw ws t) (tw ws u) → EqH (nextH h) (tw ws t) (tw ws u)) {t u : Int × Int} (ht : TV ws t) (hu : TV ws u) (he : EqH (curH h) (tw ws t) (tw ws u)) : ∀ i, tw ws t i = tw ws u i := by
  have e1 : curH h = h.toNat := by unfold curH; omega
  have e2 : nextH h = h.toNat + h.toNat := by unfold nextH; rw [if_neg (by omega)]; omega
  rw [e1, e2] at hst
  rw [e1] at he
  intro i
  induction i using Nat.strongRecOn generalizing t u with
  | _ i ih =>
    by_cases hi : i < h.toNat
    · exact he i hi
    · have h2 := (eqH_add.1 (hst t u ht hu he)).2
      have f1 : (fun i => tw ws t (i + h.toNat)) = tw ws (sh ws t h) := funext fun i => (tw_sh ht (by omega) i).symm
      have f2 : (fun i => tw ws u (i + h.toNat)) = tw ws (sh ws u h) := funext fun i => (tw_sh hu (by omega) i).symm
      rw [f1, f2] at h2
      have := ih (i - h.toNat) (by omega) (sh_tv ht) (sh_tv hu) h2
      rw [tw_sh ht (by omega), tw_sh hu (by omega), Nat.sub_add_cancel (by omega)] at this
      exact this
theorem take_rd {l : List Int} {j : Int} (h0 : 0 ≤ j) (h : j < l.length) : l.take (j + 1).toNat = l.take j.toNat ++ [rd l j] := by
  have hl : j.toNat < l.length := by omega
  rw [show (j + 1).toNat = j.toNat + 1 by omega, List.take_add_one, List.getElem?_eq_getElem hl]
  simp [rd, List.getD_eq_getElem?_getD, List.getElem?_eq_getElem hl]
theorem ltI_tri (t u : Int × Int) : ltI t u ∨ t = u ∨ ltI u t := by
  unfold ltI
  rcases Int.lt_trichotomy t.1 u.1 with a | a | a
  · exact .inl (.inl a)
  · rcases Int.lt_trichotomy t.2 u.2 with b | b | b
    · exact .inl (.inr ⟨a, b⟩)
    · exact .inr (.inl (Prod.ext a b))
    · exact .inr (.inr (.inr ⟨a.symm, b⟩))
  · exact .inr (.inr (.inl a))
theorem Sorted.toO {ws : List (List Int)} {M : Nat} {l : List (Int × Int)} (s : Sorted ws M l) (hM : ∀ t u, TV ws t → TV ws u → EqH M (tw ws t) (tw ws u) → ∀ i, tw ws t i = tw ws u i) : l.Pairwise (ordO ws) := by
  refine (s.pw.and s.nodup).imp_of_mem fun {x y} hx hy h => ?_
  have hxy := ord_long (hM x y (s.tv x hx) (s.tv y hy))
  rw [← hxy]
  rcases tri M (tw ws x) (tw ws y) with a | a | a
  · exact .inl a
  · rcases ltI_tri x y with b | b | b
    · exact .inr ⟨a, b⟩
    · exact absurd b h.2
    · exact absurd (.inr ⟨a.symm, b⟩) h.1
  · exact absurd (.inl a) h.1
theorem stay {ws : List (List Int)} {bs rs : List Int} {h w : Int} {l lo : List (Int × Int)} (h0 : 0 < h) (hr : RK ws bs (curH h) rs) (s : Sorted ws (nextH h) l) (hall : ∀ t, TV ws t → t ∈ l) (hp : l.Perm lo) (st : Steps bs rs lo w) (hw : clsF ws bs rs h l (l.length - 1) = w) : l.Pairwise (ordO ws) := by
  have hcn : curH h ≤ nextH h := by unfold curH nextH; rw [if_neg (by omega)]; omega
  refine s.toO fun t u ht hu e => eq_all_stay h0 (fun t u ht hu e => ?_) ht hu (e.mono hcn)
  obtain ⟨i, hi, rfl⟩ := List.mem_iff_getElem.1 (hall t ht)
  obtain ⟨j, hj, rfl⟩ := List.mem_iff_getElem.1 (hall u hu)
  rw [← rdp_get hi, ← rdp_get hj] at e ⊢
  exact no_more h0 hr s hp st hw hi hj e
theorem take_rdp {l : List (Int × Int)} {j : Int} (h0 : 0 ≤ j) (h : j < l.length) : l.take (j + 1).toNat = l.take j.toNat ++ [rdp l j] := by
  have hl : j.toNat < l.length := by omega
  rw [show (j + 1).toNat = j.toNat + 1 by omega, List.take_add_one, List.getElem?_eq_getElem hl]
  simp [rdp, List.getD_eq_getElem?_getD, List.getElem?_eq_getElem hl]
/-- There is one order alone. -/
theorem one_order {α : Type} {r : α → α → Prop} (asy : ∀ x y, r x y → ¬ r y x) : ∀ {a b : List α}, a.Perm b → a.Pairwise r → b.Pairwise r → a = b
  | [], b, h, _, _ => (List.nil_perm.1 h).symm
  | x :: a, [], h, _, _ => absurd h.symm (by simp)
  | x :: a, y :: b, h, ha, hb => by
    have e : x = y := by
      rcases List.mem_cons.1 (h.mem_iff.1 (.head _)) with e | e
      · exact e
      · have h1 := (List.pairwise_cons.1 hb).1 x e
        rcases List.mem_cons.1 (h.mem_iff.2 (.head _)) with e2 | e2
        · exact e2.symm
        · exact absurd h1 (asy _ _ ((List.pairwise_cons.1 ha).1 y e2))
    subst e
    rw [one_order asy ((List.perm_cons x).1 h) (List.pairwise_cons.1 ha).2 (List.pairwise_cons.1 hb).2]
end Go.Pure
namespace Go.Pure
open Go Go.Eng
/-- A rotation of a word, as Go makes it, without end. -/
theorem om_turn {w : List Int} {i : Nat} (hi : i < w.length) (j : Nat) : om (w.drop i ++ w.take i) j = w.getD ((i + j) % w.length) 0 := by
  have hl : (w.drop i ++ w.take i).length = w.length := by rw [List.length_append, List.length_drop, List.length_take]; omega
  have hm := Nat.mod_lt j (show 0 < w.length by omega)
  unfold om
  rw [hl, List.getD_eq_getElem?_getD, List.getD_eq_getElem?_getD]
  congr 1
  have e : (i + j) % w.length = (i + j % w.length) % w.length := by rw [Nat.add_mod_mod]
  rw [e]
  clear e
  generalize j % w.length = r at hm ⊢
  by_cases h : r < w.length - i
  · have e2 : (i + r) % w.length = i + r := Nat.mod_eq_of_lt (by omega)
    rw [List.getElem?_append_left (by rw [List.length_drop]; exact h), List.getElem?_drop, e2]
  · have e2 : (i + r) % w.length = i + r - w.length := by rw [Nat.mod_eq_sub_mod (by omega), Nat.mod_eq_of_lt (by omega)]
    rw [List.getElem?_append_right (by rw [List.length_drop]; omega), List.length_drop, List.getElem?_take, if_pos (by omega), e2]
    congr 1
    omega
theorem om_tw {ws : List (List Int)} {t : Int × Int} (ht : TV ws t) (j : Nat) : om ((rdl ws t.1).drop t.2.toNat ++ (rdl ws t.1).take t.2.toNat) j = tw ws t j := by
  obtain ⟨a, b, c, d⟩ := ht
  rw [om_turn (by omega)]
  rfl
end Go.Pure
