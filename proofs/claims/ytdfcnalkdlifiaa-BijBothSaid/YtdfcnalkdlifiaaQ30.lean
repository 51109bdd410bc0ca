/-
  Plain laws: the rings of what leads where. Own work.
-/
import Derived.Test.YtdfcnalkdlifiaaQ29
import Derived.Test.YtdfcnalkdlifiaaE20
import Derived.Test.YtdfcnalkdlifiaaE10
namespace Go.Pure
open Go Go.Eng
section
variable {p : List Int}
/-- From k on, as long as nothing comes twice. -/
def walkC (p : List Int) : Nat → List Bool → Int → List Int × List Bool
  | 0, E, _ => ([], E)
  | f + 1, E, k => if rdb E k = true then ([], E) else (k :: (walkC p f (updB E k true) (rd p k)).1, (walkC p f (updB E k true) (rd p k)).2)
/-- How many have not come. -/
def cntF (E : List Bool) : Nat := E.countP fun b => !b
theorem cntF_rep (n : Nat) : cntF (List.replicate n false) = n := by unfold cntF; rw [List.countP_replicate]; simp
theorem cntF_upd {E : List Bool} {k : Int} (k0 : 0 ≤ k) (hk : k < E.length) (h : rdb E k ≠ true) : cntF (updB E k true) + 1 = cntF E := by
  have hlt : k.toNat < E.length := by omega
  have e : E[k.toNat] = false := by
    have h2 : rdb E k = E[k.toNat] := by unfold rdb; rw [List.getD_eq_getElem?_getD, List.getElem?_eq_getElem hlt]; rfl
    rw [h2] at h
    simpa using h
  unfold cntF updB
  rw [List.countP_set hlt, e]
  simp only [Bool.not_true, Bool.not_false, Bool.false_eq_true, if_false, if_true, Nat.add_zero]
  have : 0 < E.countP fun b => !b := List.countP_pos_iff.2 ⟨E[k.toNat], List.getElem_mem hlt, by rw [e]; rfl⟩
  omega
theorem walkC_seen {f : Nat} {E : List Bool} {k : Int} (h : rdb E k = true) : walkC p f E k = ([], E) := by
  cases f with
  | zero => rfl
  | succ f => rw [walkC, if_pos h]
theorem cntF_pos {E : List Bool} {k : Int} (k0 : 0 ≤ k) (hk : k < E.length) (h : rdb E k ≠ true) : 0 < cntF E := by have := cntF_upd k0 hk h; omega
theorem walkC_go {f : Nat} {E : List Bool} {k : Int} (k0 : 0 ≤ k) (hk : k < E.length) (hf : cntF E ≤ f) (h : rdb E k ≠ true) : walkC p f E k = (k :: (walkC p (f - 1) (updB E k true) (rd p k)).1, (walkC p (f - 1) (updB E k true) (rd p k)).2) := by
  have := cntF_pos k0 hk h
  obtain ⟨g, rfl⟩ : ∃ g, f = g + 1 := ⟨f - 1, by omega⟩
  rw [walkC, if_neg h]
  rfl
/-- The rings from the first i places. -/
def cycK (p : List Int) : Nat → List Bool × List (List Int)
  | 0 => (List.replicate p.length false, [])
  | i + 1 => ((walkC p p.length (cycK p i).1 i).2, if (walkC p p.length (cycK p i).1 i).1 = [] then (cycK p i).2 else (cycK p i).2 ++ [(walkC p p.length (cycK p i).1 i).1])
def cycL (p : List Int) : List (List Int) := (cycK p p.length).2
theorem walkC_facts (hp : p.Perm (iota p.length)) : ∀ (f : Nat) (E : List Bool) (k : Int), E.length = p.length → 0 ≤ k → k < p.length → (walkC p f E k).2.length = p.length ∧ (∀ x ∈ (walkC p f E k).1, 0 ≤ x ∧ x < p.length) ∧ (walkC p f E k).1.length + cntF (walkC p f E k).2 = cntF E
  | 0, E, k, hl, _, _ => And.intro hl (And.intro (fun x hx => absurd hx (List.not_mem_nil (a := x))) (Nat.zero_add _))
  | f + 1, E, k, hl, k0, hk => by
    rw [walkC]
    split
    · exact And.intro hl (And.intro (fun x hx => absurd hx (List.not_mem_nil (a := x))) (Nat.zero_add _))
    · rename_i h
      have hn := mem_iota.1 (hp.subset (rd_mem (L := p) k0 hk))
      have ih := walkC_facts hp f (updB E k true) (rd p k) (by rw [updB_len]; exact hl) hn.1 hn.2
      have hc := cntF_upd k0 (by omega) h
      refine ⟨ih.1, fun x hx => ?_, ?_⟩
      · rcases List.mem_cons.1 hx with rfl | hx
        · exact ⟨k0, hk⟩
        · exact ih.2.1 x hx
      · have := ih.2.2
        simp only [List.length_cons]
        omega
theorem cycK_facts (hp : p.Perm (iota p.length)) : ∀ i : Nat, i ≤ p.length → (cycK p i).1.length = p.length ∧ (∀ c ∈ (cycK p i).2, ∀ x ∈ c, 0 ≤ x ∧ x < p.length) ∧ (cycK p i).2.flatten.length + cntF (cycK p i).1 = p.length
  | 0, _ => ⟨by simp [cycK], fun c hc => (by cases hc), by simp [cycK, cntF_rep]⟩
  | i + 1, hi => by
    have ih := cycK_facts hp i (by omega)
    have hw := walkC_facts hp p.length (cycK p i).1 i ih.1 (by omega) (by omega)
    rw [cycK]
    refine ⟨hw.1, ?_, ?_⟩
    · intro c hc x hx
      split at hc
      · exact ih.2.1 c hc x hx
      · rcases List.mem_append.1 hc with hc | hc
        · exact ih.2.1 c hc x hx
        · obtain rfl := List.mem_singleton.1 hc
          exact hw.2.1 x hx
    · split
      · rename_i h
        have h2 := hw.2.2
        rw [h] at h2
        have := ih.2.2
        simp only [List.length_nil] at h2
        show (cycK p i).2.flatten.length + cntF (walkC p p.length (cycK p i).1 i).2 = p.length
        omega
      · rw [List.flatten_append, List.length_append]
        have h2 := hw.2.2
        have := ih.2.2
        simp only [List.flatten_cons, List.flatten_nil, List.append_nil]
        omega
theorem cycL_in (hp : p.Perm (iota p.length)) : ∀ c ∈ cycL p, ∀ x ∈ c, 0 ≤ x ∧ x < p.length := (cycK_facts hp p.length (Nat.le_refl _)).2.1
theorem cycL_len (hp : p.Perm (iota p.length)) : (cycL p).flatten.length ≤ p.length := by have := (cycK_facts hp p.length (Nat.le_refl _)).2.2; unfold cycL; omega
/-- No ring is empty: there are no more than places. -/
theorem cycK_few (p : List Int) : ∀ i : Nat, (cycK p i).2.length ≤ i
  | 0 => by simp [cycK]
  | i + 1 => by
    have := cycK_few p i
    rw [cycK]
    split
    · exact Nat.le_succ_of_le this
    · rw [List.length_append]; simp only [List.length_singleton]; omega
theorem cyc_yes {i : Int} {E E2 : List Bool} {ls : List (List Int)} {acc : List Int} (i0 : 0 ≤ i) (hcy : cycK p i.toNat = (E, ls)) (hse : walkC p p.length E i = (acc, E2)) (hne : acc ≠ []) : cycK p (i + 1).toNat = (E2, ls ++ [acc]) := by
  rw [show (i + 1).toNat = i.toNat + 1 by omega, cycK, hcy]
  simp only [show ((i.toNat : Nat) : Int) = i by omega, hse, if_neg hne]
theorem cyc_no {i : Int} {E E2 : List Bool} {ls : List (List Int)} {acc : List Int} (i0 : 0 ≤ i) (hcy : cycK p i.toNat = (E, ls)) (hse : walkC p p.length E i = (acc, E2)) (hne : acc = []) : cycK p (i + 1).toNat = (E2, ls) := by
  rw [show (i + 1).toNat = i.toNat + 1 by omega, cycK, hcy]
  simp only [show ((i.toNat : Nat) : Int) = i by omega, hse, if_pos hne]
theorem walk_bound (hp : p.Perm (iota p.length)) {f : Nat} {E E2 : List Bool} {acc : List Int} {i k : Int} (hl : E.length = p.length) (i0 : 0 ≤ i) (hi : i < p.length) (hw : (acc ++ (walkC p f E2 k).1, (walkC p f E2 k).2) = walkC p p.length E i) : acc.length ≤ p.length := by
  have h := (walkC_facts hp p.length E i hl i0 hi).2.2
  rw [← hw] at h
  simp only [List.length_append] at h
  have : cntF E ≤ E.length := List.countP_le_length
  omega
/-- A ring's letters, the last one first. -/
def wordC (l c : List Int) : List Int := c.reverse.map (rd l)
/-- What is read back: all rings, the last one first. -/
def backL (l : List Int) (cs : List (List Int)) : List Int := (cs.reverse.map (wordC l)).flatten
theorem backL_step {l : List Int} {cs : List (List Int)} {k : Nat} (hk : k < cs.length) : (((cs.reverse).take (k + 1)).map (wordC l)).flatten = (((cs.reverse).take k).map (wordC l)).flatten ++ wordC l (rdl cs (cs.length - 1 - k)) := by
  have hlt : k < cs.reverse.length := by rw [List.length_reverse]; exact hk
  rw [List.take_add_one, List.getElem?_eq_getElem hlt, List.map_append, List.flatten_append]
  congr 1
  simp only [Option.toList_some, List.map_cons, List.map_nil, List.flatten_cons, List.flatten_nil, List.append_nil]
  congr 1
  rw [List.getElem_reverse]
  unfold rdl
  rw [List.getD_eq_getElem?_getD, List.getElem?_eq_getElem (by omega)]
  simp only [Option.getD_some]
  congr 1
  omega
theorem wordC_step {l c : List Int} {k : Nat} (hk : k < c.length) : ((c.reverse).take (k + 1)).map (rd l) = ((c.reverse).take k).map (rd l) ++ [rd l (rd c (c.length - 1 - k))] := by
  have hlt : k < c.reverse.length := by rw [List.length_reverse]; exact hk
  rw [List.take_add_one, List.getElem?_eq_getElem hlt, List.map_append]
  congr 1
  simp only [Option.toList_some, List.map_cons, List.map_nil]
  congr 2
  rw [List.getElem_reverse, rd_getI (by omega) (by omega)]
  congr 1
  omega
theorem wordC_len (l c : List Int) : (wordC l c).length = c.length := by simp [wordC]
theorem flat_len_le {cs : List (List Int)} : ∀ {k : Nat} {l : List Int}, (((cs.reverse).take k).map (wordC l)).flatten.length ≤ cs.flatten.length := by
  intro k l
  have h1 : (((cs.reverse).take k).map (wordC l)).flatten.length = (((cs.reverse).take k).map List.length).sum := by
    rw [List.length_flatten, List.map_map]
    congr 2
    funext c
    exact wordC_len l c
  have h2 : cs.flatten.length = ((cs.reverse).map List.length).sum := by rw [List.length_flatten, List.map_reverse, List.sum_reverse]
  rw [h1, h2]
  conv => rhs; rw [← List.take_append_drop k cs.reverse]
  rw [List.map_append, List.sum_append]
  omega
end
end Go.Pure
