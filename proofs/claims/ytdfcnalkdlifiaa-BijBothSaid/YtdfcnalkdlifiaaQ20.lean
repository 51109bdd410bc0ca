/-
  Plain laws: what the laws of chapter 15 say. Own work.
-/
import Derived.Test.YtdfcnalkdlifiaaQ17
namespace Go.Pure
open Go Go.Eng
theorem iota_nodup (n : Nat) : (iota n).Nodup := by
  unfold iota
  exact List.pairwise_map.2 (List.nodup_range.imp fun {x y} h hh => h (by omega))
/-- There is a row of all places in order. -/
theorem order_exists (s : List Int) : ∃ b : List Int, b.Perm (iota s.length) ∧ b.Pairwise (ordE s) := by
  rcases Nat.eq_zero_or_pos s.length with z | z
  · rw [z]
    exact ⟨[], .refl _, .nil⟩
  · refine ⟨joinO s s.length 0, join_perm s _ 0, ?_⟩
    have h1 := join_sorted (s := s) (n := s.length) (b := 0) z (Nat.zero_le _)
    have h2 : (joinO s s.length 0).Nodup := (join_perm s _ 0).symm.nodup (iota_nodup _)
    refine (h1.and h2).imp_of_mem fun {x y} hx hy h => ?_
    have mx := mem_iota.1 ((join_perm s _ 0).subset hx)
    have my := mem_iota.1 ((join_perm s _ 0).subset hy)
    rcases ordE_tri mx my h.2 with a | a
    · exact a
    · exfalso
      have := (rk_lt (s := s) (h := s.length) (i := y.toNat) (k := x.toNat) (by omega)).2 a
      have := h.1
      simp only [Nat.add_zero] at this
      omega
theorem outs_eq {s o p : List Int} (ho : o.length = s.length) (hp : p.length = s.length) (h1 : ∀ q : Nat, q < s.length → rd o (rkS s s.length q) = q) (h2 : ∀ q : Nat, q < s.length → rd p (rkS s s.length q) = q) : o = p := by
  obtain ⟨b, hb, hs⟩ := order_exists s
  rw [places hb hs ho h1, places hb hs hp h2]
/-- Of one number again and again the shorter endings come first. -/
theorem zero_order (n : Nat) : let s := List.replicate n (0 : Int); let b := (List.range n).map fun i : Nat => (n : Int) - 1 - i; b.Perm (iota s.length) ∧ b.Pairwise (ordE s) := by
  intro s b
  have hl : s.length = n := List.length_replicate
  have hb : b = (iota n).reverse := by
    apply List.ext_getElem
    · simp [b, iota]
    · intro i h1 h2
      simp only [b, List.length_map, List.length_range] at h1
      simp only [b, iota, List.getElem_map, List.getElem_range, List.getElem_reverse, List.length_map, List.length_range]
      omega
  refine ⟨by rw [hl, hb]; exact List.reverse_perm _, ?_⟩
  refine List.pairwise_iff_getElem.2 fun i j hi hj hij => ?_
  simp only [b, List.length_map, List.length_range] at hi hj
  simp only [b, List.getElem_map, List.getElem_range]
  have hlt : ∀ k, k < n → lt s k = 0 := fun k hk => by
    simp [s, lt, List.getD_eq_getElem?_getD, List.getElem?_replicate, hk]
  have hlo : lo s ≤ 0 := by
    rcases Nat.eq_zero_or_pos n with z | z
    · omega
    · have := lo_le (lt_mem (s := s) (i := 0) (by omega))
      rw [hlt 0 z] at this
      exact this
  unfold ordE
  rw [show ((n : Int) - 1 - i).toNat = n - 1 - i by omega, show ((n : Int) - 1 - j).toNat = n - 1 - j by omega]
  refine ⟨i + 1, by omega, fun d hd => ?_, ?_⟩
  · unfold eu
    rw [if_pos (by omega), if_pos (by omega), hlt _ (by omega), hlt _ (by omega)]
  · rw [eu_zero (by omega)]
    exact eu_pos (by omega)
theorem cmpL_map {f : Int → Int} (hf : ∀ x y : Int, x < y ↔ f x < f y) : ∀ a b : List Int, cmpL (a.map f) (b.map f) = cmpL a b
  | [], [] => rfl
  | [], b :: v => rfl
  | a :: u, [] => rfl
  | a :: u, b :: v => by
    simp only [List.map_cons, cmpL, ← hf]
    rw [cmpL_map hf u v]
theorem rkS_map {s : List Int} {f : Int → Int} (hf : ∀ x y : Int, x < y ↔ f x < f y) (h i : Nat) : rkS (s.map f) h i = rkS s h i := by
  unfold rkS
  have e : ∀ k, cutE (s.map f) k h = (cutE s k h).map f := fun k => by unfold cutE; rw [List.map_take, List.map_drop]
  simp only [e, cmpL_map hf, List.length_map]
/-- By twice as many, as by both halves. -/
theorem twice_key {s : List Int} {h i k : Int} (h0 : 0 ≤ h) (i0 : 0 ≤ i) (hi : i < s.length) (k0 : 0 ≤ k) (hk : k < s.length) :
    rd (rkL s (2 * h).toNat) i < rd (rkL s (2 * h).toNat) k ↔ rd (rkL s h.toNat) i < rd (rkL s h.toNat) k ∨ rd (rkL s h.toNat) i = rd (rkL s h.toNat) k ∧ onF (rkL s h.toNat) i h < onF (rkL s h.toNat) k h := by
  rw [rd_rkL i0 hi, rd_rkL k0 hk, rd_rkL i0 hi, rd_rkL k0 hk]
  rcases Int.lt_or_le 0 h with a | a
  · have e1 := onF_rk (s := s) (n := h.toNat) (b := h.toNat) i0 hi
    have e2 := onF_rk (s := s) (n := h.toNat) (b := h.toNat) k0 hk
    rw [show ((h.toNat : Nat) : Int) = h by omega] at e1 e2
    rw [e1, e2, show (2 * h).toNat = h.toNat + h.toNat by omega]
    have := rk_join_lt (s := s) (n := h.toNat) (b := h.toNat) (i := i.toNat) (k := k.toNat) (by omega) (Nat.le_refl _) (by omega) (by omega)
    omega
  · have hz : h = 0 := by omega
    subst hz
    have z : ∀ q, rkS s (0 : Int).toNat q = 0 := fun q => rk_zero s q
    have z2 : ∀ q, rkS s (2 * (0 : Int)).toNat q = 0 := fun q => rk_zero s q
    rw [z, z, z2, z2]
    have e : ∀ j : Int, 0 ≤ j → j < s.length → onF (rkL s (0 : Int).toNat) j 0 = 1 := fun j j0 jl => by
      unfold onF
      rw [rkL_len, if_neg (by omega), Int.add_zero, rd_rkL j0 jl, z]
      rfl
    rw [e i i0 hi, e k k0 hk]
    omega
theorem onF_split (l : List Int) (i h : Int) : (l.length : Int) ≤ i + h ∧ onF l i h = 0 ∨ i + h < l.length ∧ onF l i h = rd l (i + h) + 1 := by
  unfold onF
  by_cases a : (l.length : Int) ≤ i + h
  · exact .inl ⟨a, if_pos a⟩
  · exact .inr ⟨by omega, if_neg a⟩
end Go.Pure
