/-
  Plain laws: rotations in order. Own work.
-/
import Derived.Test.YtdfcnalkdlifiaaQ3
import Derived.Test.YtdfcnalkdlifiaaE12
namespace Go.Pure
open Go Go.Eng
/-- cmp.Or. -/
def orL : List Int → Int
  | [] => 0
  | a :: l => if a ≠ 0 then a else orL l
theorem orL_go {l : List Int} {k : Int} (h0 : 0 ≤ k) (h : k < l.length) (hz : rd l k = 0) : orL (l.drop k.toNat) = orL (l.drop (k + 1).toNat) := by
  rw [rd_drop_cons h0 h, orL, if_neg (by omega)]
theorem orL_hit {l : List Int} {k : Int} (h0 : 0 ≤ k) (h : k < l.length) (hz : rd l k ≠ 0) : orL (l.drop k.toNat) = rd l k := by
  rw [rd_drop_cons h0 h, orL, if_pos hz]
/-- The rank of a rotation so many letters on. -/
def ahd (ws : List (List Int)) (bs rs : List Int) (t : Int × Int) (h : Int) : Int := rd rs (rd bs t.1 + (t.2 + h) % ((rdl ws t.1).length : Int))
/-- How two rotations compare by twice as many letters. -/
def tcmp (ws : List (List Int)) (bs rs : List Int) (h : Int) (t u : Int × Int) : Int :=
  orL [cmpI (ahd ws bs rs t 0) (ahd ws bs rs u 0), cmpI (ahd ws bs rs t h) (ahd ws bs rs u h), cmpI t.1 u.1, cmpI t.2 u.2]
/-- A rotation that is one of the words' own. -/
def TOk (ws : List (List Int)) (bs : List Int) (N : Nat) (t : Int × Int) : Prop := (0 ≤ t.1 ∧ t.1 < ws.length ∧ t.1 < bs.length) ∧ (0 ≤ t.2 ∧ t.2 < (rdl ws t.1).length ∧ t.2 ≤ 1000000) ∧ 0 < (rdl ws t.1).length ∧ (0 ≤ rd bs t.1 ∧ rd bs t.1 + (rdl ws t.1).length ≤ N)
/-- Where a rotation's rank stands. -/
def posT (bs : List Int) (t : Int × Int) : Int := rd bs t.1 + t.2
def keyNe (ws : List (List Int)) (bs rs : List Int) (h : Int) (t u : Int × Int) : Prop := ahd ws bs rs t 0 ≠ ahd ws bs rs u 0 ∨ ahd ws bs rs t h ≠ ahd ws bs rs u h
instance (ws : List (List Int)) (bs rs : List Int) (h : Int) (t u : Int × Int) : Decidable (keyNe ws bs rs h t u) := by unfold keyNe; infer_instance
/-- Which class, in order, a place is in. -/
def clsF (ws : List (List Int)) (bs rs : List Int) (h : Int) (l : List (Int × Int)) : Nat → Int
  | 0 => 0
  | i + 1 => clsF ws bs rs h l i + if keyNe ws bs rs h (rdp l i) (rdp l (i + 1 : Nat)) then 1 else 0
theorem clsF_step {ws : List (List Int)} {bs rs : List Int} {h : Int} {l : List (Int × Int)} {i : Int} (hi : 0 < i) : clsF ws bs rs h l i.toNat = clsF ws bs rs h l (i - 1).toNat + if keyNe ws bs rs h (rdp l (i - 1)) (rdp l i) then 1 else 0 := by
  obtain ⟨k, rfl⟩ : ∃ k : Nat, i = (k : Int) + 1 := ⟨(i - 1).toNat, by omega⟩
  have e1 : ((k : Int) + 1).toNat = k + 1 := by omega
  have e2 : ((k : Int) + 1 - 1) = k := by omega
  rw [e1, e2, Int.toNat_natCast]
  rfl
theorem rd_upd_same {l : List Int} {i v : Int} (h0 : 0 ≤ i) (h : i < l.length) : rd (upd l i v) i = v := by
  unfold rd upd
  have hl : i.toNat < l.length := by omega
  simp [List.getD_eq_getElem?_getD, hl]
theorem rd_upd_other {l : List Int} {i j v : Int} (h0 : 0 ≤ i) (hj : 0 ≤ j) (hne : i ≠ j) : rd (upd l i v) j = rd l j := by
  unfold rd upd
  have : i.toNat ≠ j.toNat := by omega
  simp [List.getD_eq_getElem?_getD, this]
theorem rdp_mem {l : List (Int × Int)} {i : Int} (h0 : 0 ≤ i) (h : i < l.length) : rdp l i ∈ l := by
  have hl : i.toNat < l.length := by omega
  simp [rdp, List.getD_eq_getElem?_getD, List.getElem?_eq_getElem hl]
theorem rdp_inj {l : List (Int × Int)} (hd : l.Nodup) {i j : Int} (h0 : 0 ≤ i) (h : i < l.length) (g0 : 0 ≤ j) (g : j < l.length) (e : rdp l i = rdp l j) : i = j := by
  have hi : i.toNat < l.length := by omega
  have hj : j.toNat < l.length := by omega
  simp only [rdp, List.getD_eq_getElem?_getD, List.getElem?_eq_getElem hi, List.getElem?_eq_getElem hj, Option.getD_some] at e
  rcases Int.lt_trichotomy i j with hlt | hlt | hlt
  · exact absurd e (List.pairwise_iff_getElem.1 hd i.toNat j.toNat hi hj (by omega))
  · exact hlt
  · exact absurd e.symm (List.pairwise_iff_getElem.1 hd j.toNat i.toNat hj hi (by omega))
theorem ranks_step {bs rk : List Int} {l : List (Int × Int)} {f : Nat → Int} {i n : Int} (hnd : l.Nodup) (hinj : ∀ t ∈ l, ∀ u ∈ l, posT bs t = posT bs u → t = u) (h0 : 0 ≤ i) (hi : i < l.length) (hpos : ∀ t ∈ l, 0 ≤ posT bs t) (hlt : posT bs (rdp l i) < rk.length)
    (hrk : ∀ j : Nat, j < i → rd rk (posT bs (rdp l j)) = f j) (hn : n = f i.toNat) : ∀ j : Nat, (j : Int) < i + 1 → rd (upd rk (rd bs (rdp l i).1 + (rdp l i).2) n) (posT bs (rdp l j)) = f j := by
  intro j hj
  have hpi := hpos _ (rdp_mem h0 hi)
  by_cases hji : (j : Int) = i
  · subst hji
    rw [Int.toNat_natCast] at hn
    rw [← hn]
    exact rd_upd_same hpi hlt
  · have hpj := hpos _ (rdp_mem (show (0 : Int) ≤ j by omega) (show (j : Int) < l.length by omega))
    have hne : posT bs (rdp l i) ≠ posT bs (rdp l j) := fun e => hji (rdp_inj hnd (by omega) (by omega) h0 hi (hinj _ (rdp_mem h0 hi) _ (rdp_mem (by omega) (by omega)) e).symm)
    have e := rd_upd_other (l := rk) (v := n) hpi hpj hne
    rw [← hrk j (by omega)]
    exact e
/-- The comparison orders strictly and weakly. -/
theorem cmpI_neg {a b : Int} : cmpI a b < 0 ↔ a < b := by unfold cmpI; split <;> (try split) <;> omega
theorem tcmp_neg (ws : List (List Int)) (bs rs : List Int) (h : Int) (t u : Int × Int) : tcmp ws bs rs h t u < 0 ↔
    (ahd ws bs rs t 0 < ahd ws bs rs u 0 ∨ ahd ws bs rs t 0 = ahd ws bs rs u 0 ∧ (ahd ws bs rs t h < ahd ws bs rs u h ∨ ahd ws bs rs t h = ahd ws bs rs u h ∧ (t.1 < u.1 ∨ t.1 = u.1 ∧ t.2 < u.2))) := by
  unfold tcmp
  simp only [orL]
  generalize ahd ws bs rs t 0 = a
  generalize ahd ws bs rs u 0 = b
  generalize ahd ws bs rs t h = c
  generalize ahd ws bs rs u h = d
  by_cases h1 : a = b
  · have e1 : cmpI a b = 0 := cmpI_zero.2 h1
    by_cases h2 : c = d
    · have e2 : cmpI c d = 0 := cmpI_zero.2 h2
      by_cases h3 : t.1 = u.1
      · have e3 : cmpI t.1 u.1 = 0 := cmpI_zero.2 h3
        by_cases h4 : t.2 = u.2
        · have e4 : cmpI t.2 u.2 = 0 := cmpI_zero.2 h4
          simp [e1, e2, e3, e4]; omega
        · have e4 : cmpI t.2 u.2 ≠ 0 := fun e => h4 (cmpI_zero.1 e)
          simp only [e1, e2, e3, ne_eq, not_true, not_false_eq_true, if_false, if_true, e4, cmpI_neg]; omega
      · have e3 : cmpI t.1 u.1 ≠ 0 := fun e => h3 (cmpI_zero.1 e)
        simp only [e1, e2, ne_eq, not_true, not_false_eq_true, if_false, if_true, e3, cmpI_neg]; omega
    · have e2 : cmpI c d ≠ 0 := fun e => h2 (cmpI_zero.1 e)
      simp only [e1, ne_eq, not_true, not_false_eq_true, if_false, if_true, e2, cmpI_neg]; omega
  · have e1 : cmpI a b ≠ 0 := fun e => h1 (cmpI_zero.1 e)
    simp only [ne_eq, e1, not_false_eq_true, if_true, cmpI_neg]; omega
theorem tcmp_swo (ws : List (List Int)) (bs rs : List Int) (h : Int) : Go.Sort.SWO (Go.Proofs.ltOf (tcmp ws bs rs h)) := by
  refine ⟨fun x => ?_, fun x y z h1 h2 => ?_, fun x y z h1 h2 => ?_⟩
  · simp only [Go.Proofs.ltOf, decide_eq_false_iff_not, tcmp_neg]; omega
  · simp only [Go.Proofs.ltOf, decide_eq_true_eq, tcmp_neg] at *; omega
  · simp only [Go.Proofs.ltOf, decide_eq_false_iff_not, tcmp_neg] at *; omega
end Go.Pure
namespace Go.Pure
open Go Go.Eng
/-- How many letters the first k words have. -/
def offs (ws : List (List Int)) (k : Nat) : Nat := ((ws.take k).flatten).length
def blist (ws : List (List Int)) (k : Nat) : List Int := (List.range k).map fun i => (offs ws i : Int)
/-- The rotations of one word. -/
def turnsOf (w : Int) (j : Nat) : List (Int × Int) := (List.range j).map fun i : Nat => (w, (i : Int))
def tlist (ws : List (List Int)) : Nat → List (Int × Int)
  | 0 => []
  | k + 1 => tlist ws k ++ turnsOf k (rdl ws k).length
theorem turnsOf_succ (w : Int) {j : Int} (h : 0 ≤ j) : turnsOf w (j + 1).toNat = turnsOf w j.toNat ++ [(w, j)] := by
  obtain ⟨j, rfl⟩ : ∃ m : Nat, j = m := ⟨j.toNat, by omega⟩
  rw [show ((j : Int) + 1).toNat = j + 1 by omega, Int.toNat_natCast]
  unfold turnsOf
  rw [List.range_succ, List.map_append]
  rfl
theorem turnsOf_len (w : Int) (j : Nat) : (turnsOf w j).length = j := by simp [turnsOf]
theorem flat_take_succ {ws : List (List Int)} {k : Int} (h0 : 0 ≤ k) (h : k < ws.length) : (ws.take (k + 1).toNat).flatten = (ws.take k.toNat).flatten ++ rdl ws k := by
  rw [show ws.take (k + 1).toNat = ws.take k.toNat ++ [rdl ws k] from ?_]
  · simp
  · have hl : k.toNat < ws.length := by omega
    rw [show (k + 1).toNat = k.toNat + 1 by omega, List.take_add_one, List.getElem?_eq_getElem hl]
    simp [rdl, List.getD_eq_getElem?_getD, List.getElem?_eq_getElem hl]
theorem offs_succ {ws : List (List Int)} {k : Int} (h0 : 0 ≤ k) (h : k < ws.length) : offs ws (k + 1).toNat = offs ws k.toNat + (rdl ws k).length := by
  unfold offs
  rw [flat_take_succ h0 h, List.length_append]
theorem offs_le (ws : List (List Int)) (k : Nat) : offs ws k ≤ ws.flatten.length := by
  unfold offs
  have := List.take_append_drop k ws
  calc ((ws.take k).flatten).length ≤ ((ws.take k).flatten).length + ((ws.drop k).flatten).length := Nat.le_add_right _ _
    _ = ((ws.take k ++ ws.drop k).flatten).length := by rw [List.flatten_append, List.length_append]
    _ = _ := by rw [this]
theorem blist_succ {ws : List (List Int)} {k : Int} (h0 : 0 ≤ k) : blist ws (k + 1).toNat = blist ws k.toNat ++ [(offs ws k.toNat : Int)] := by
  rw [show (k + 1).toNat = k.toNat + 1 by omega]
  unfold blist
  rw [List.range_succ, List.map_append]
  rfl
theorem blist_len (ws : List (List Int)) (k : Nat) : (blist ws k).length = k := by simp [blist]
theorem tlist_succ {ws : List (List Int)} {k : Int} (h0 : 0 ≤ k) : tlist ws (k + 1).toNat = tlist ws k.toNat ++ turnsOf k (rdl ws k).length := by
  obtain ⟨k, rfl⟩ : ∃ m : Nat, k = m := ⟨k.toNat, by omega⟩
  rw [show ((k : Int) + 1).toNat = k + 1 by omega, Int.toNat_natCast]
  rfl
theorem tlist_len (ws : List (List Int)) : ∀ k : Nat, k ≤ ws.length → (tlist ws k).length = offs ws k
  | 0, _ => rfl
  | k + 1, h => by
    have ih := tlist_len ws k (by omega)
    have := offs_succ (ws := ws) (k := k) (by omega) (by omega)
    rw [show ((k : Int) + 1).toNat = k + 1 by omega, Int.toNat_natCast] at this
    show (tlist ws k ++ turnsOf k (rdl ws k).length).length = _
    rw [List.length_append, ih, turnsOf_len, this]
end Go.Pure
