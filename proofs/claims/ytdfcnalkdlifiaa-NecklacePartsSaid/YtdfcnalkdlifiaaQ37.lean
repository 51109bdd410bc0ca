/-
  Plain laws: borders one by one; words as rings, in order. Own work.
-/
import Derived.Test.YtdfcnalkdlifiaaQ3
import Derived.Test.YtdfcnalkdlifiaaQ36
import Derived.Test.YtdfcnalkdlifiaaQ15
namespace Go.Pure
open Go Go.Eng
/-! ### borders -/
def Bd (u : List Int) (n k : Nat) : Prop := k < n ∧ ∀ e, e < k → lt u e = lt u (n - k + e)
def MB (u : List Int) (n : Nat) (k : Int) : Prop := 0 ≤ k ∧ Bd u n k.toNat ∧ ∀ q : Nat, Bd u n q → (q : Int) ≤ k
def KI (u : List Int) (i : Nat) (n : Int) : Prop := 0 ≤ n ∧ Bd u i n.toNat ∧ ∀ q : Nat, Bd u i q → n < q → lt u q ≠ lt u i
variable {u : List Int}
theorem MB.one : MB u 1 0 := ⟨by omega, ⟨by omega, fun e he => by simp at he⟩, fun q h => by have := h.1; omega⟩
theorem MB.bd {n : Nat} {k : Int} (h : MB u n k) : 0 ≤ k ∧ k < n := ⟨h.1, by have := h.2.1.1; have := h.1; omega⟩
theorem KI.bd {n : Nat} {k : Int} (h : KI u n k) : 0 ≤ k ∧ k < n := ⟨h.1, by have := h.2.1.1; have := h.1; omega⟩
theorem KI.init {i : Nat} {n : Int} (h : MB u i n) : KI u i n := ⟨h.1, h.2.1, fun q hq hn => by have := h.2.2 q hq; omega⟩
theorem KI.step {i : Nat} {n m : Int} (h : KI u i n) (hne : lt u n.toNat ≠ lt u i) (hb : MB u n.toNat m) : KI u i m := by
  obtain ⟨h0, ⟨h1, h2⟩, h3⟩ := h
  obtain ⟨g0, ⟨g1, g2⟩, g3⟩ := hb
  refine ⟨g0, ⟨by omega, fun e he => ?_⟩, fun q hq hmq => ?_⟩
  · rw [g2 e he, h2 (n.toNat - m.toNat + e) (by omega)]
    congr 1
    omega
  · rcases Nat.lt_trichotomy q n.toNat with a | a | a
    · have : Bd u n.toNat q := ⟨a, fun e he => by
        rw [hq.2 e he, h2 (n.toNat - q + e) (by omega)]
        congr 1
        omega⟩
      have := g3 q this
      omega
    · subst a; exact hne
    · exact h3 q hq (by omega)
theorem KI.hit {i : Nat} {n : Int} (h : KI u i n) (he : lt u n.toNat = lt u i) : MB u (i + 1) (n + 1) := by
  obtain ⟨h0, ⟨h1, h2⟩, h3⟩ := h
  refine ⟨by omega, ⟨by omega, fun e hE => ?_⟩, fun q hq => ?_⟩
  · rcases Nat.lt_or_ge e n.toNat with a | a
    · rw [h2 e a]; congr 1; omega
    · obtain rfl : e = n.toNat := by omega
      rw [he]; congr 1; omega
  · rcases q with _ | q
    · omega
    · have hb : Bd u i q := ⟨by have := hq.1; omega, fun e hE => by rw [hq.2 e (by omega)]; congr 1; omega⟩
      have hl := hq.2 q (by omega)
      have := hq.1
      rw [show i + 1 - (q + 1) + q = i by omega] at hl
      rcases Int.lt_or_le n q with a | a
      · exact absurd hl (h3 q hb a)
      · omega
theorem KI.miss {i : Nat} {n : Int} (h : KI u i n) (hn : n ≤ 0) (he : lt u n.toNat ≠ lt u i) : MB u (i + 1) n := by
  obtain ⟨h0, ⟨h1, h2⟩, h3⟩ := h
  obtain rfl : n = 0 := by omega
  refine ⟨by omega, ⟨by omega, fun e hE => by simp at hE⟩, fun q hq => ?_⟩
  rcases q with _ | q
  · omega
  · have hb : Bd u i q := ⟨by have := hq.1; omega, fun e hE => by rw [hq.2 e (by omega)]; congr 1; omega⟩
    have hl := hq.2 q (by omega)
    have := hq.1
    rw [show i + 1 - (q + 1) + q = i by omega] at hl
    rcases Nat.eq_zero_or_pos q with a | a
    · subst a; exact absurd hl he
    · exact absurd hl (h3 q hb (by omega))
theorem bd_perL {n k : Nat} (hn : n = u.length) (hk : k < n) : Bd u n k ↔ PerL u (n - k) := by
  subst hn
  rw [perL_iff]
  constructor
  · intro h i hi
    have := h.2 i (by omega)
    unfold lt at this
    rw [this]; congr 1; omega
  · intro h
    refine ⟨hk, fun e he => ?_⟩
    have := h e (by omega)
    unfold lt
    rw [← this]; congr 1; omega
theorem MB.least {k : Int} (hn : 0 < u.length) (h : MB u u.length k) : (u.length : Int) - k = lp u := by
  obtain ⟨r, e, r1, r2, hp, hmin⟩ := lp_spec hn
  obtain ⟨k0, hb, hmax⟩ := h
  have hb1 := hb.1
  have h1 := hmax (u.length - r) ((bd_perL rfl (by omega)).2 (by rw [show u.length - (u.length - r) = r by omega]; exact hp))
  have h2 := (bd_perL rfl hb.1).1 hb
  rcases Nat.lt_or_ge (u.length - k.toNat) r with a | a
  · exact absurd h2 (hmin _ (by omega) a)
  · omega
/-! ### an order of words and numbers -/
theorem cmpL_anti : ∀ a b : List Int, cmpL b a = -cmpL a b
  | [], [] => rfl
  | [], _ :: _ => rfl
  | _ :: _, [] => rfl
  | x :: a, y :: b => by
    rw [cmpL, cmpL, cmpL_anti a b]
    split <;> split <;> omega
theorem cmpL_eq : ∀ a b : List Int, cmpL a b = 0 ↔ a = b
  | [], [] => by simp [cmpL]
  | [], _ :: _ => by simp [cmpL]
  | _ :: _, [] => by simp [cmpL]
  | x :: a, y :: b => by
    have ih := cmpL_eq a b
    rw [cmpL]
    split
    · simp; omega
    · split
      · simp; omega
      · rw [ih]; simp; omega
theorem cmpL_le : ∀ a b c : List Int, cmpL a b ≤ 0 → cmpL b c ≤ 0 → cmpL a c ≤ 0
  | [], [], _, _, h => h
  | [], _ :: _, [], _, h => by simp [cmpL] at h
  | [], _ :: _, _ :: _, _, _ => by simp [cmpL]
  | _ :: _, [], _, h, _ => by simp [cmpL] at h
  | _ :: _, _ :: _, [], _, h => by simp [cmpL] at h
  | x :: a, y :: b, z :: c, h1, h2 => by
    have ih := cmpL_le a b c
    rw [cmpL] at h1 h2 ⊢
    split at h1
    · split at h2
      · rw [if_pos (by omega)]; omega
      · split at h2
        · omega
        · rw [if_pos (by omega)]; omega
    · split at h1
      · omega
      · split at h2
        · rw [if_pos (by omega)]; omega
        · split at h2
          · omega
          · rw [if_neg (by omega), if_neg (by omega)]; exact ih h1 h2
theorem cmpL_range : ∀ a b : List Int, -1 ≤ cmpL a b ∧ cmpL a b ≤ 1
  | [], [] => by simp [cmpL]
  | [], _ :: _ => by simp [cmpL]
  | _ :: _, [] => by simp [cmpL]
  | x :: a, y :: b => by
    have ih := cmpL_range a b
    rw [cmpL]
    split
    · omega
    · split <;> omega
abbrev RT := List Int × Int
def kcmp (a b : RT) : Int := if cmpL a.1 b.1 ≠ 0 then cmpL a.1 b.1 else cmpI a.2 b.2
theorem kcmp_anti (a b : RT) : kcmp b a = -kcmp a b := by
  unfold kcmp
  rw [cmpL_anti a.1 b.1, cmpI_anti a.2 b.2]
  split <;> split <;> omega
theorem kcmp_eq (a b : RT) : kcmp a b = 0 ↔ a = b := by
  unfold kcmp
  have h1 := cmpL_eq a.1 b.1
  have h2 := @cmpI_zero a.2 b.2
  rw [Prod.ext_iff]
  split
  · rename_i c
    constructor
    · intro h; exact absurd h c
    · intro h; exact absurd (h1.2 h.1) c
  · rename_i c
    rw [h2]
    constructor
    · intro h; exact ⟨h1.1 (by omega), h⟩
    · intro h; exact h.2
theorem cmpI_le {a b : Int} : cmpI a b ≤ 0 ↔ a ≤ b := by unfold cmpI; split <;> (try split) <;> omega
theorem kcmp_le_iff {a b : RT} : kcmp a b ≤ 0 ↔ cmpL a.1 b.1 < 0 ∨ a.1 = b.1 ∧ a.2 ≤ b.2 := by
  unfold kcmp
  have h1 := cmpL_eq a.1 b.1
  have h2 := @cmpI_le a.2 b.2
  split
  · rename_i c
    constructor
    · intro h; left; omega
    · rintro (h | h)
      · omega
      · exact absurd (h1.2 h.1) c
  · rename_i c
    rw [h2]
    constructor
    · intro h; exact .inr ⟨h1.1 (by omega), h⟩
    · rintro (h | h)
      · omega
      · exact h.2
theorem kcmp_le (a b c : RT) (h1 : kcmp a b ≤ 0) (h2 : kcmp b c ≤ 0) : kcmp a c ≤ 0 := by
  rw [kcmp_le_iff] at h1 h2 ⊢
  have h := cmpL_le a.1 b.1 c.1
  have e1 := cmpL_eq a.1 b.1
  have e2 := cmpL_eq b.1 c.1
  have e3 := cmpL_eq a.1 c.1
  rcases h1 with h1 | h1
  · rcases h2 with h2 | h2
    · have a1 := h (by omega) (by omega)
      rcases Int.lt_or_eq_of_le a1 with g | g
      · exact .inl g
      · have e := e3.1 g
        rw [e, cmpL_anti b.1 c.1] at h1
        omega
    · exact .inl (by rw [← h2.1]; exact h1)
  · rcases h2 with h2 | h2
    · exact .inl (by rw [h1.1]; exact h2)
    · exact .inr ⟨h1.1.trans h2.1, by omega⟩
theorem kcmp_sorted_one {l m : List RT} (hp : l.Perm m) (hl : l.Pairwise fun a b => kcmp a b ≤ 0) (hm : m.Pairwise fun a b => kcmp a b ≤ 0) : l = m :=
  hp.eq_of_pairwise (fun a b _ _ h1 h2 => (kcmp_eq a b).1 (by rw [kcmp_anti a b] at h2; omega)) hl hm
/-! ### words as rings -/
def lw (u : List Int) : List Int := turnS u (lrot u)
def rootW (c : List Int) : List Int := c.take (rl c).toNat
def timesW (c : List Int) : Int := (c.length : Int) / rl c
def ringOf (u : List Int) : RT := (rootW (lw u), timesW (lw u))
def ringsOf (ws : List (List Int)) : List RT := (ws.filter fun w => decide (0 < w.length)).map ringOf
def ringS (ws : List (List Int)) : List RT := (ringsOf ws).mergeSort fun a b => decide (kcmp a b ≤ 0)
def unring (r : RT) : List Int := rep r.1 r.2
def canon (ws : List (List Int)) : List (List Int) := (ringS ws).map unring
theorem ringS_perm (ws : List (List Int)) : (ringS ws).Perm (ringsOf ws) := List.mergeSort_perm _ _
theorem ringS_sorted (ws : List (List Int)) : (ringS ws).Pairwise fun a b => kcmp a b ≤ 0 := by
  have := List.pairwise_mergeSort (le := fun a b : RT => decide (kcmp a b ≤ 0)) (fun a b c h1 h2 => decide_eq_true (kcmp_le a b c (of_decide_eq_true h1) (of_decide_eq_true h2))) (fun a b => by
    rw [Bool.or_eq_true, decide_eq_true_eq, decide_eq_true_eq, kcmp_anti a b]; omega) (ringsOf ws)
  exact this.imp fun h => of_decide_eq_true h
theorem ringS_one {ws : List (List Int)} {l : List RT} (hp : l.Perm (ringsOf ws)) (hs : l.Pairwise fun a b => kcmp a b ≤ 0) : l = ringS ws := kcmp_sorted_one (hp.trans (ringS_perm ws).symm) hs (ringS_sorted ws)
theorem ringS_congr {ws xs : List (List Int)} (hp : (ringsOf ws).Perm (ringsOf xs)) : ringS ws = ringS xs := ringS_one ((ringS_perm ws).trans hp) (ringS_sorted ws)
theorem lw_len (u : List Int) : (lw u).length = u.length := turnS_len u _
theorem lw_nil : lw [] = [] := rfl
theorem rot_turn {r : Nat} (hr : r ≤ u.length) (hn : 0 < u.length) : om (turnS u r) = rot u r := by
  have h1 := om_per (turnS u r)
  rw [turnS_len] at h1
  funext d
  rw [← h1.mod d, ← (rot_per (s := u) r).mod d]
  have hd := Nat.mod_lt d hn
  have := turnS_at hr hd
  rw [om_lt (by rw [turnS_len]; exact hd)]
  rw [show ((r : Nat) : Int) = (r : Int) from rfl] at *
  exact this
theorem rot_rot {r q : Nat} (hr : r ≤ u.length) (hn : 0 < u.length) : rot (turnS u r) q = rot u (r + q) := by
  funext d
  show om (turnS u r) (q + d) = om u (r + q + d)
  rw [rot_turn hr hn]
  show om u (r + (q + d)) = _
  rw [Nat.add_assoc]
/-- The least rotation's own least rotation is itself. -/
theorem lrot_lw (u : List Int) : lrot (lw u) = 0 := by
  rcases Nat.eq_zero_or_pos u.length with z | z
  · rw [List.eq_nil_of_length_eq_zero z]; rfl
  · have hl := lw_len u
    have fl := lrot_FL z
    have hb : lrotK u u.length ≤ u.length := by have := fl.lt; omega
    have e : lw u = turnS u (lrotK u u.length : Nat) := rfl
    have f2 : FL (lw u) 0 := ⟨by omega, fun r hr => by
      rw [e, rot_rot hb z, rot_rot hb z]
      exact fl.any _, fun r hr => by omega⟩
    have f3 := lrot_FL (s := lw u) (by omega)
    have := f3.one f2
    unfold lrot
    omega
theorem turnS_zero (u : List Int) : turnS u 0 = u := by unfold turnS; simp
theorem lw_lw (u : List Int) : lw (lw u) = lw u := by
  rw [show lw (lw u) = turnS (lw u) (lrot (lw u)) from rfl, lrot_lw, turnS_zero]
/-- Words are one if they are as long and one without end. -/
theorem om_ext {a b : List Int} (hl : a.length = b.length) (h : om a = om b) : a = b := by
  refine list_ext_rd hl fun j h0 h1 => ?_
  have := congrFun h j.toNat
  rw [om_lt (by omega), om_lt (by omega)] at this
  exact this
theorem rot_lrot {r : Nat} (hr : r ≤ u.length) (hn : 0 < u.length) : lw (turnS u r) = lw u := by
  have hl := turnS_len u r
  have fl := lrot_FL hn
  have f2 := lrot_FL (s := turnS u r) (by omega)
  have hb : lrotK u u.length ≤ u.length := by have := fl.lt; omega
  have hb2 : lrotK (turnS u r) (turnS u r).length ≤ (turnS u r).length := by have := f2.lt; omega
  refine om_ext (by rw [lw_len, lw_len, hl]) ?_
  rw [show lw (turnS u r) = turnS (turnS u r) (lrotK (turnS u r) (turnS u r).length : Nat) from rfl, show lw u = turnS u (lrotK u u.length : Nat) from rfl, rot_turn hb hn, rot_turn hb2 (by omega), rot_rot hr hn]
  rcases lt_tri (rot u (r + lrotK (turnS u r) (turnS u r).length)) (rot u (lrotK u u.length)) with a | a | a
  · exact absurd a (fl.any _)
  · exact funext a
  · exfalso
    have h2 := f2.any (lrotK u u.length + (u.length - r))
    rw [rot_rot hr hn, rot_rot hr hn] at h2
    have e : rot u (r + (lrotK u u.length + (u.length - r))) = rot u (lrotK u u.length) := by
      rw [← rot_mod (r + _), ← rot_mod (lrotK u u.length), show r + (lrotK u u.length + (u.length - r)) = lrotK u u.length + u.length by omega, Nat.add_mod_right]
    rw [e] at h2
    exact h2 a
theorem ringOf_turn {r : Nat} (hr : r ≤ u.length) (hn : 0 < u.length) : ringOf (turnS u r) = ringOf u := by unfold ringOf; rw [rot_lrot hr hn]
theorem ringOf_lw (u : List Int) : ringOf (lw u) = ringOf u := by unfold ringOf; rw [lw_lw]
theorem rl_dvd {c : List Int} (h : 0 < c.length) : (c.length : Int) % rl c = 0 := by
  obtain ⟨r, e, r1, r2, _, _⟩ := lp_spec h
  unfold rl
  split
  · exact Int.emod_self
  · omega
theorem root_len {c : List Int} (h : 0 < c.length) : ((rootW c).length : Int) = rl c := by
  have := rl_range h
  unfold rootW
  rw [List.length_take]
  omega
theorem times_mul {c : List Int} (h : 0 < c.length) : timesW c * rl c = c.length := Int.ediv_mul_cancel (Int.dvd_of_emod_eq_zero (rl_dvd h))
theorem times_pos {c : List Int} (h : 0 < c.length) : 0 < timesW c := by
  have h1 := times_mul h
  have h2 := rl_range h
  rcases Int.lt_or_le 0 (timesW c) with a | a
  · exact a
  · have := Int.mul_nonneg_of_nonpos_of_nonpos a (show -(rl c) ≤ 0 by omega)
    rw [Int.mul_neg] at this
    omega
theorem root_om {c : List Int} (h : 0 < c.length) : om (rootW c) = om c := by
  obtain ⟨r, e, r1, r2, ho, _⟩ := rl_spec h
  funext i
  rw [ho i]
  unfold rootW
  rw [e]
  rfl
theorem unring_root {c : List Int} (h : 0 < c.length) : rep (rootW c) (timesW c) = c := by
  have hr := root_len h
  have hp := rl_range h
  have ht := times_pos h
  have hl : (rep (rootW c) (timesW c)).length = c.length := by
    rw [rep_length]
    have h1 := times_mul h
    have : ((timesW c).toNat * (rootW c).length : Int) = c.length := by
      rw [Int.toNat_of_nonneg (by omega), hr, h1]
    exact_mod_cast this
  refine om_ext hl ?_
  rw [show timesW c = ((timesW c).toNat : Int) by omega]
  funext i
  rw [om_rep (by omega) (by omega), root_om h]
theorem unring_of {w : List Int} (h : 0 < w.length) : unring (ringOf w) = lw w := unring_root (by rw [lw_len]; exact h)
theorem mem_rings {ws : List (List Int)} {r : RT} (h : r ∈ ringsOf ws) : ∃ w ∈ ws, 0 < w.length ∧ r = ringOf w := by
  unfold ringsOf at h
  obtain ⟨w, hw, e⟩ := List.mem_map.1 h
  obtain ⟨h1, h2⟩ := List.mem_filter.1 hw
  exact ⟨w, h1, of_decide_eq_true h2, e.symm⟩
theorem mem_ringS {ws : List (List Int)} {r : RT} (h : r ∈ ringS ws) : ∃ w ∈ ws, 0 < w.length ∧ r = ringOf w := mem_rings ((ringS_perm ws).subset h)
theorem mem_canon {ws : List (List Int)} {c : List Int} (h : c ∈ canon ws) : ∃ w ∈ ws, 0 < w.length ∧ c = lw w := by
  obtain ⟨r, hr, rfl⟩ := List.mem_map.1 h
  obtain ⟨w, h1, h2, rfl⟩ := mem_ringS hr
  exact ⟨w, h1, h2, unring_of h2⟩
theorem ringsOf_append (a b : List (List Int)) : ringsOf (a ++ b) = ringsOf a ++ ringsOf b := by unfold ringsOf; rw [List.filter_append, List.map_append]
theorem ringsOf_canon (ws : List (List Int)) : ringsOf (canon ws) = ringS ws := by
  unfold ringsOf canon
  rw [List.filter_eq_self.2, List.map_map]
  · have : ∀ r ∈ ringS ws, (ringOf ∘ unring) r = r := fun r hr => by
      obtain ⟨w, h1, h2, rfl⟩ := mem_ringS hr
      show ringOf (unring (ringOf w)) = _
      rw [unring_of h2, ringOf_lw]
    rw [List.map_congr_left this]
    exact List.map_id' _
  · intro c hc
    obtain ⟨w, h1, h2, rfl⟩ := mem_canon hc
    rw [lw_len]; exact decide_eq_true h2
theorem canon_canon (ws : List (List Int)) : canon (canon ws) = canon ws := by
  have : ringS (canon ws) = ringS ws := (ringS_one (ws := canon ws) (l := ringS ws) (by rw [ringsOf_canon]) (ringS_sorted ws)).symm
  show (ringS (canon ws)).map unring = _
  rw [this]
  rfl
theorem canon_parts (a b : List (List Int)) : canon (canon a ++ canon b) = canon (a ++ b) := by
  have : ringS (canon a ++ canon b) = ringS (a ++ b) := ringS_congr (by
    rw [ringsOf_append, ringsOf_append, ringsOf_canon, ringsOf_canon]
    exact (ringS_perm a).append (ringS_perm b))
  show (ringS (canon a ++ canon b)).map unring = _
  rw [this]
  rfl
theorem canon_congr {ws xs : List (List Int)} (hp : (ringsOf ws).Perm (ringsOf xs)) : canon ws = canon xs := by
  show (ringS ws).map unring = _
  rw [ringS_congr hp]
  rfl
theorem canon_len (ws : List (List Int)) : (canon ws).length = (ringsOf ws).length := by
  unfold canon
  rw [List.length_map, (ringS_perm ws).length_eq]
end Go.Pure
