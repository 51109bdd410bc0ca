/-
  Plain laws: all places are in a ring; what is read back. Own work.
-/
import Derived.Test.YtdfcnalkdlifiaaQ30
namespace Go.Pure
open Go Go.Eng
section
variable {p : List Int}
theorem walkC_keeps {j : Int} (j0 : 0 ≤ j) : ∀ (f : Nat) (E : List Bool) (k : Int), (hp : p.Perm (iota p.length)) → E.length = p.length → 0 ≤ k → k < p.length → rdb E j = true → rdb (walkC p f E k).2 j = true
  | 0, E, k, _, _, _, _, h => h
  | f + 1, E, k, hp, hl, k0, hk, h => by
    rw [walkC]
    split
    · exact h
    · have hn := mem_iota.1 (hp.subset (rd_mem (L := p) k0 hk))
      refine walkC_keeps j0 f _ _ hp (by rw [updB_len]; exact hl) hn.1 hn.2 ?_
      rw [rdb_upd k0 (by omega) j0]
      split
      · rfl
      · exact h
theorem walkC_marks (hp : p.Perm (iota p.length)) {f : Nat} {E : List Bool} {k : Int} (hl : E.length = p.length) (k0 : 0 ≤ k) (hk : k < p.length) (hf : cntF E ≤ f) : rdb (walkC p f E k).2 k = true := by
  by_cases h : rdb E k = true
  · rw [walkC_seen h]; exact h
  · rw [walkC_go k0 (by omega) hf h]
    have hn := mem_iota.1 (hp.subset (rd_mem (L := p) k0 hk))
    exact walkC_keeps k0 _ _ _ hp (by rw [updB_len]; exact hl) hn.1 hn.2 (by rw [rdb_upd k0 (by omega) k0, if_pos rfl])
theorem cycK_seen (hp : p.Perm (iota p.length)) : ∀ i : Nat, i ≤ p.length → ∀ j : Nat, j < i → rdb (cycK p i).1 j = true
  | 0, _, j, hj => by omega
  | i + 1, hi, j, hj => by
    have hf := cycK_facts hp i (by omega)
    have hc : cntF (cycK p i).1 ≤ p.length := by have := hf.2.2; omega
    rw [cycK]
    rcases Nat.lt_or_ge j i with g | g
    · exact walkC_keeps (by omega) _ _ _ hp hf.1 (by omega) (by omega) (cycK_seen hp i (by omega) j g)
    · obtain rfl : j = i := by omega
      exact walkC_marks hp hf.1 (by omega) (by omega) hc
theorem cntF_zero {E : List Bool} (h : ∀ j : Nat, j < E.length → rdb E j = true) : cntF E = 0 := by
  unfold cntF
  rw [List.countP_eq_zero]
  intro b hb
  obtain ⟨j, hj, rfl⟩ := List.mem_iff_getElem.1 hb
  have := h j hj
  have e : rdb E (j : Int) = E[j] := by unfold rdb; rw [Int.toNat_natCast, List.getD_eq_getElem?_getD, List.getElem?_eq_getElem hj]; rfl
  rw [e] at this
  rw [this]; simp
/-- Each place is in a ring. -/
theorem cycL_all (hp : p.Perm (iota p.length)) : (cycL p).flatten.length = p.length := by
  have hf := cycK_facts hp p.length (Nat.le_refl _)
  have := cntF_zero (E := (cycK p p.length).1) fun j hj => cycK_seen hp p.length (Nat.le_refl _) j (by rw [hf.1] at hj; exact hj)
  unfold cycL
  omega
theorem backL_len (l : List Int) (cs : List (List Int)) : (backL l cs).length = cs.flatten.length := by
  unfold backL
  rw [List.length_flatten, List.map_map, List.length_flatten, List.map_reverse, List.sum_reverse]
  congr 2
  funext c
  exact wordC_len l c
theorem mem_backL {l : List Int} {cs : List (List Int)} {x : Int} (h : x ∈ backL l cs) : ∃ y, y ∈ cs.flatten ∧ x = rd l y := by
  unfold backL at h
  obtain ⟨w, hw, hx⟩ := List.mem_flatten.1 h
  obtain ⟨c, hc, rfl⟩ := List.mem_map.1 hw
  unfold wordC at hx
  obtain ⟨y, hy, rfl⟩ := List.mem_map.1 hx
  exact ⟨y, List.mem_flatten.2 ⟨c, List.mem_reverse.1 hc, List.mem_reverse.1 hy⟩, rfl⟩
theorem backL_byt {l : List Int} (hl : ByteL l) (cs : List (List Int)) : ByteL (backL l cs) := fun x hx => by
  obtain ⟨y, _, rfl⟩ := mem_backL hx
  exact hl.rd _
theorem word_stepI {l c acc : List Int} {k : Int} (k0 : 0 ≤ k) (hk : k < c.length) (h : acc = ((c.reverse).take (c.length - 1 - k).toNat).map (rd l)) : acc ++ [rd l (rd c k)] = ((c.reverse).take (c.length - 1 - (k - 1)).toNat).map (rd l) := by
  have := wordC_step (l := l) (c := c) (k := ((c.length : Int) - 1 - k).toNat) (by omega)
  rw [show ((c.length : Int) - 1 - (k - 1)).toNat = ((c.length : Int) - 1 - k).toNat + 1 by omega, this, h]
  congr 4
  omega
theorem back_stepI {l acc : List Int} {cs : List (List Int)} {k : Int} (k0 : 0 ≤ k) (hk : k < cs.length) (h : acc = (((cs.reverse).take (cs.length - 1 - k).toNat).map (wordC l)).flatten) : acc ++ wordC l (rdl cs k) = (((cs.reverse).take (cs.length - 1 - (k - 1)).toNat).map (wordC l)).flatten := by
  have := backL_step (l := l) (cs := cs) (k := ((cs.length : Int) - 1 - k).toNat) (by omega)
  rw [show ((cs.length : Int) - 1 - (k - 1)).toNat = ((cs.length : Int) - 1 - k).toNat + 1 by omega, this, h]
  congr 3
  omega
theorem cyc_mem {cs : List (List Int)} {k : Int} (k0 : 0 ≤ k) (hk : k < cs.length) : rdl cs k ∈ cs := by
  unfold rdl
  rw [List.getD_eq_getElem?_getD, List.getElem?_eq_getElem (by omega)]
  exact List.getElem_mem _
theorem back_outer {l acc acc2 : List Int} {cs : List (List Int)} {m kr : Nat} (hm : m = cs.length) (hkr : kr < m) (hacc : acc = (((cs.reverse).take kr).map (wordC l)).flatten) (h2 : acc2 = acc ++ (((rdl cs ((m - 1 - kr : Nat) : Int)).reverse).take (rdl cs ((m - 1 - kr : Nat) : Int)).length).map (rd l)) : acc2 = (((cs.reverse).take (kr + 1)).map (wordC l)).flatten := by
  rw [backL_step (by omega), h2, hacc, List.take_of_length_le (l := (rdl cs ((m - 1 - kr : Nat) : Int)).reverse) (by rw [List.length_reverse]; exact Nat.le_refl _), show ((m - 1 - kr : Nat) : Int) = (cs.length : Int) - 1 - kr by omega]
  rfl
theorem word_inner {l acc acc2 c : List Int} {kq : Nat} (hk : kq < c.length) (h : acc2 = acc ++ ((c.reverse).take kq).map (rd l)) : acc2 ++ [rd l (rd c ((c.length - 1 - kq : Nat) : Int))] = acc ++ ((c.reverse).take (kq + 1)).map (rd l) := by
  rw [wordC_step hk, ← List.append_assoc, ← h, show ((c.length - 1 - kq : Nat) : Int) = (c.length : Int) - 1 - kq by omega]
theorem cyc_count {p : List Int} : (cycL p).length ≤ p.length := cycK_few p p.length
theorem all_eq {l : List Int} {c : Int} {n : Nat} (hl : l.length = n) (h : ∀ x ∈ l, x = c) : l = List.replicate n c := List.eq_replicate_iff.2 ⟨hl, h⟩
end
end Go.Pure
