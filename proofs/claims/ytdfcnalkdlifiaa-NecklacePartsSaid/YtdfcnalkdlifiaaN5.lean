/- Walks of Go functions, printed by a program of our own. -/
import Derived.Test.YtdfcnalkdlifiaaN4
import Derived.Test.YtdfcnalkdlifiaaF2
namespace Go.Proofs.Ytdfcnalkdlifiaa
open Go Go.Eng Go.Pure
set_option linter.unusedVariables false
theorem kcmp_neg {a b : RT} : kcmp a b < 0 ↔ cmpL a.1 b.1 < 0 ∨ cmpL a.1 b.1 = 0 ∧ a.2 < b.2 := by
  unfold kcmp
  have h2 : cmpI a.2 b.2 < 0 ↔ a.2 < b.2 := by unfold cmpI; split <;> (try split) <;> omega
  split
  · omega
  · rw [h2]; omega
def kw (c : List Int) : RT := (rootW c, timesW c)
theorem kw_lw (u : List Int) : kw (lw u) = ringOf u := rfl
structure CI (ws : List (List Int)) (ls : List (List Int)) : Prop where
  perm : (ls.map kw).Perm (ringsOf ws)
  sorted : ls.Pairwise fun a b => kcmp (kw a) (kw b) ≤ 0
theorem CI.nil : CI [] [] := ⟨.refl _, .nil⟩
theorem CI.skip {ws ls : List (List Int)} {w : List Int} (h : CI ws ls) (hw : w.length = 0) : CI (ws ++ [w]) ls := ⟨by
  have e : ringsOf [w] = [] := by unfold ringsOf; simp [hw]
  rw [ringsOf_append, e, List.append_nil]
  exact h.perm, h.sorted⟩
theorem CI.put {ws ls : List (List Int)} {w : List Int} {j : Int} (h : CI ws ls) (hw : 0 < w.length) (h0 : 0 ≤ j) (h1 : j ≤ ls.length) (hup : ∀ q : Int, j ≤ q → q < ls.length → kcmp (kw (lw w)) (kw (rdl ls q)) < 0) (hlo : ¬ (0 < j ∧ kcmp (kw (lw w)) (kw (rdl ls (j - 1))) < 0)) : CI (ws ++ [w]) (ls.take j.toNat ++ [lw w] ++ ls.drop j.toNat) := by
  refine ⟨?_, ?_⟩
  · rw [ringsOf_append]
    have e : ringsOf [w] = [ringOf w] := by unfold ringsOf; simp [hw]
    rw [e, List.map_append, List.map_append]
    refine List.Perm.trans ?_ (List.Perm.append_right [ringOf w] h.perm)
    rw [List.append_assoc]
    refine (List.Perm.append_left _ List.perm_append_comm).trans ?_
    rw [← List.append_assoc, ← List.map_append, List.take_append_drop]
    exact .refl _
  · have hs := h.sorted
    have hs2 := hs
    rw [← List.take_append_drop j.toNat ls, List.pairwise_append] at hs2
    obtain ⟨s1, s2, s3⟩ := hs2
    have hdn : ∀ b ∈ ls.drop j.toNat, kcmp (kw (lw w)) (kw b) < 0 := fun b hb => by
      obtain ⟨k, hk, e⟩ := List.mem_iff_getElem.1 hb
      rw [List.length_drop] at hk
      have := hup (j + k) (by omega) (by omega)
      have e2 : rdl ls (j + k) = b := by
        rw [← e, List.getElem_drop]
        unfold rdl
        rw [show (j + (k : Int)).toNat = j.toNat + k by omega, List.getD_eq_getElem?_getD, List.getElem?_eq_getElem (by omega)]
        rfl
      rwa [e2] at this
    have hlow : ∀ a ∈ ls.take j.toNat, kcmp (kw a) (kw (lw w)) ≤ 0 := fun a ha => by
      obtain ⟨k, hk, e⟩ := List.mem_iff_getElem.1 ha
      rw [List.length_take] at hk
      have hj : 0 < j := by omega
      have hl : kcmp (kw (rdl ls (j - 1))) (kw (lw w)) ≤ 0 := by
        rw [kcmp_anti (kw (lw w))]
        have := fun c => hlo ⟨hj, c⟩
        omega
      have e2 : rdl ls (j - 1) = ls[(j - 1).toNat]'(by omega) := by
        unfold rdl
        rw [List.getD_eq_getElem?_getD, List.getElem?_eq_getElem (by omega)]
        rfl
      rw [List.getElem_take] at e
      rcases Nat.lt_or_ge k (j - 1).toNat with g | g
      · have := List.pairwise_iff_getElem.1 hs k (j - 1).toNat (by omega) (by omega) g
        rw [e, ← e2] at this
        exact kcmp_le _ _ _ this hl
      · obtain rfl : k = (j - 1).toNat := by omega
        rw [← e, ← e2]
        exact hl
    rw [List.append_assoc, List.pairwise_append]
    refine ⟨s1, ?_, ?_⟩
    · rw [List.singleton_append, List.pairwise_cons]
      exact ⟨fun b hb => by have := hdn b hb; omega, s2⟩
    · intro a ha b hb
      rw [List.singleton_append, List.mem_cons] at hb
      rcases hb with rfl | hb
      · exact hlow a ha
      · exact s3 a ha b hb
theorem CI.done {ws ls : List (List Int)} (h : CI ws ls) (hp : ∀ c ∈ ls, 0 < c.length) : ls = canon ws := by
  have : ls.map kw = ringS ws := ringS_one h.perm (List.pairwise_map.2 h.sorted)
  unfold canon
  rw [← this, List.map_map]
  conv => lhs; rw [← List.map_id ls]
  refine List.map_congr_left fun c hc => ?_
  exact (unring_root (hp c hc)).symm
theorem roots_canon (ws : List (List Int)) : (canon ws).map rootW = (ringS ws).map Prod.fst ∧ (canon ws).map timesW = (ringS ws).map Prod.snd := by
  have : (canon ws).map kw = ringS ws := by
    unfold canon
    rw [List.map_map]
    conv => rhs; rw [← List.map_id (ringS ws)]
    refine List.map_congr_left fun r hr => ?_
    obtain ⟨w, _, hw, rfl⟩ := mem_ringS hr
    show kw (unring (ringOf w)) = ringOf w
    rw [unring_of hw, kw_lw]
  rw [← this, List.map_map, List.map_map]
  exact ⟨rfl, rfl⟩
/-! whorl/whorlref9.less -/
set_option maxRecDepth 100000 in
theorem less9_ct {w : World} {A_u : Option Addr} {n_u c_u : Nat} {u : List Int} {A_t : Option Addr} {n_t c_t : Nat} {t : List Int} (h_u : Rd w A_u n_u c_u 1 (ints .u8 u)) (h_t : Rd w A_t n_t c_t 1 (ints .u8 t)) (bh_u : ByteL u) (bh_t : ByteL t) (hu : 0 < u.length ∧ u.length ≤ 1000000) (ht : 0 < t.length ∧ t.length ≤ 1000000) :
    Ct Try.prog 45 #[.slice A_u n_u c_u, .slice A_t n_t c_t] w.heap.size w [] (fun v R' => v = .bool (decide (kcmp (kw u) (kw t) < 0))) := by
  obtain rfl := h_u.lenI
  obtain rfl := h_t.lenI
  refine fn1 Try.func45 rfl rfl rfl ?_
  have m_u := h_u.max
  have m_t := h_t.max
  refine w_seq ?_
  refine w_reg ?_
  refine wr_y rfl (y_assign rfl) ?_
  refine wr_nil ?_
  refine w_seq ?_
  refine w_reg ?_
  refine wr_y rfl (y_move rfl) ?_
  refine wr_a rfl (a_callF en43 rfl (Ct.quiet (fun w hw => root5_ct ((h_u.c _) w hw) (by first | assumption | omega | decide) hu.1 hu.2))) ?_
  rintro _ _ ⟨rfl, rfl⟩
  have hr0 := rl_range (u := u) (by omega)
  refine wr_y rfl (y_move rfl) ?_
  refine wr_y rfl (y_extract rfl rfl) ?_
  refine wr_y rfl (y_extract rfl rfl) ?_
  refine wr_y rfl (y_assign rfl) ?_
  refine wr_y rfl (y_assign rfl) ?_
  refine wr_nil ?_
  refine w_seq ?_
  refine w_reg ?_
  refine wr_y rfl (y_move rfl) ?_
  refine wr_a rfl (a_callF en43 rfl (Ct.quiet (fun w hw => root5_ct ((h_t.c _) w hw) bh_t ht.1 ht.2))) ?_
  rintro _ _ ⟨rfl, rfl⟩
  have hr0 := rl_range (u := t) (by omega)
  refine wr_y rfl (y_move rfl) ?_
  refine wr_y rfl (y_extract rfl rfl) ?_
  refine wr_y rfl (y_extract rfl rfl) ?_
  refine wr_y rfl (y_assign rfl) ?_
  refine wr_y rfl (y_assign rfl) ?_
  refine wr_nil ?_
  refine w_seq ?_
  refine w_reg ?_
  refine wr_y rfl (y_move rfl) ?_
  refine wr_y rfl (y_move rfl) ?_
  refine wr_a rfl (a_callF en61 rfl (Ct.quiet (fun w hw => words4_ct ((RdC.toI (h_u.c _) (by omega)) w hw) ((RdC.toI (h_t.c _) (by omega)) w hw)))) ?_
  rintro _ _ ⟨rfl, rfl⟩
  refine wr_y rfl (y_assign rfl) ?_
  refine wr_nil ?_
  refine w_seq ?_
  refine w_reg ?_
  refine wr_y rfl (y_move rfl) ?_
  refine wr_y rfl (y_lt rfl rfl) ?_
  refine wr_y rfl (y_move rfl) ?_
  refine wr_mid 8 [(33, .bool (decide (((cmpL ((u).take (rl u).toNat) ((t).take (rl t).toNat)) < 0) ∨ (((cmpL ((u).take (rl u).toNat) ((t).take (rl t).toNat)) = 0) ∧ ((((u).length : Int) / rl u) < (((t).length : Int) / rl t))))))] [] ?_ ?_
  ·
    refine wr_case 25 rfl (fun hc1 => ?_) (fun hc1 => ?_)
    ·
      refine wr_no rfl rfl rfl rfl ?_
      refine wr_no rfl rfl rfl rfl ?_
      refine wr_no rfl rfl rfl rfl ?_
      refine wr_nou rfl rfl rfl ?_
      refine wr_nou rfl rfl rfl ?_
      refine wr_nou rfl rfl rfl ?_
      refine wr_no rfl rfl rfl rfl ?_
      refine wr_y rfl (y_pickT rfl rfl) ?_
      refine wr_nil ?_
      exact ⟨(Sub.to rfl (mb_t (by first | omega | exact ⟨fun h => ⟨(by assumption), h⟩, fun h => h.2⟩ | simp [*])) Sub.nil), fun _ h => h⟩
    ·
      refine wr_yes rfl rfl ?_
      refine wr_y rfl (y_move rfl) ?_
      refine wr_yes rfl rfl ?_
      refine wr_y rfl (y_eq rfl rfl) ?_
      refine wr_yes rfl rfl ?_
      refine wr_y rfl (y_move rfl) ?_
      refine wr_mid 4 [(25, .bool false), (32, .bool (decide (((cmpL ((u).take (rl u).toNat) ((t).take (rl t).toNat)) = 0) ∧ ((((u).length : Int) / rl u) < (((t).length : Int) / rl t)))))] [] ?_ ?_
      ·
        refine wr_case 28 rfl (fun hc2 => ?_) (fun hc2 => ?_)
        ·
          refine wr_yes rfl rfl ?_
          refine wr_y rfl (y_move rfl) ?_
          refine wr_yes rfl rfl ?_
          refine wr_y rfl (y_move rfl) ?_
          refine wr_yes rfl rfl ?_
          refine wr_y rfl (y_lt rfl rfl) ?_
          refine wr_yes rfl rfl ?_
          refine wr_y rfl (y_pickT rfl rfl) ?_
          refine wr_nil ?_
          exact ⟨(Sub.cons rfl (Sub.to rfl (mb (by first | omega | exact ⟨fun h => ⟨(by assumption), h⟩, fun h => h.2⟩ | simp [*])) Sub.nil)), fun _ h => h⟩
        ·
          refine wr_no rfl rfl rfl rfl ?_
          refine wr_no rfl rfl rfl rfl ?_
          refine wr_no rfl rfl rfl rfl ?_
          refine wr_yes rfl rfl ?_
          refine wr_y rfl (y_pickF rfl rfl) ?_
          refine wr_nil ?_
          exact ⟨(Sub.cons rfl (Sub.to rfl (mb_f (by first | omega | exact ⟨fun h => ⟨(by assumption), h⟩, fun h => h.2⟩ | simp [*])) Sub.nil)), fun _ h => h⟩
      refine wr_y rfl (y_pickF rfl rfl) ?_
      refine wr_nil ?_
      exact ⟨(Sub.to rfl (mb (by first | omega | exact ⟨fun h => ⟨(by assumption), h⟩, fun h => h.2⟩ | simp [*])) Sub.nil), fun _ h => h⟩
  refine wr_y rfl (y_assign rfl) ?_
  refine wr_nil ?_
  refine w_ret ?_
  refine ⟨_, rfl, ?_⟩
  exact congrArg Value.bool (decide_eq_decide.2 (kcmp_neg (a := kw u) (b := kw t)).symm)

theorem ins_ok {ls : List (List Int)} {w : List Int} {j : Nat} (h : ∀ c ∈ ls, ByteL c ∧ 0 < c.length ∧ c.length ≤ 8000) (hb : ByteL w) (hw : 0 < w.length ∧ w.length ≤ 8000) : ∀ c ∈ ls.take j ++ [w] ++ ls.drop j, ByteL c ∧ 0 < c.length ∧ c.length ≤ 8000 := fun c hc => by
  rcases List.mem_append.1 hc with hc | hc
  · rcases List.mem_append.1 hc with hc | hc
    · exact h c (List.mem_of_mem_take hc)
    · obtain rfl := List.mem_singleton.1 hc
      exact ⟨hb, hw⟩
  · exact h c (List.mem_of_mem_drop hc)
/-! whorl/whorlref9.Canon -/
set_option maxRecDepth 100000 in
set_option maxHeartbeats 2000000 in
theorem canon9_ct {w : World} {A_ws : Option Addr} {n_ws c_ws : Nat} {vals_ws : List Value} {ws : List (List Int)} (h_ws : Rd w A_ws n_ws c_ws 1 vals_ws) (s_ws : SlW .u8 w vals_ws ws) (hN : (∀ w ∈ ws, w.length ≤ 8000) ∧ ws.length ≤ 100000) :
    Ct Try.prog 25 #[.slice A_ws n_ws c_ws] w.heap.size w [] (fun v R' => ∃ (A : Option Addr) (c : Nat) (vals : List Value) (Rs : List Row), v = .slice A vals.length c ∧ SlR .u8 Rs vals (canon ws) ∧ R' = ⟨22, 1, A, vals.length, c, vals, false⟩ :: Rs) := by
  obtain rfl : n_ws = ws.length := by have := h_ws.len; have := s_ws.1; omega
  refine fn1 Try.func25 rfl rfl rfl ?_
  have m_ws := h_ws.max
  have hob := s_ws.okB
  refine w_seq ?_
  refine w_reg ?_
  refine wr_y rfl (y_assign rfl) ?_
  refine wr_nil ?_
  refine w_seq ?_
  refine w_reg ?_
  refine wr_sub (R1 := (⟨22, 1, none, 0, 0, [], false⟩ :: [])) (Sub.refl _) (fun _ h => h.nil 22 1) ?_
  refine wr_y rfl (y_assign rfl) ?_
  refine wr_nil ?_
  refine w_seq ?_
  refine w_seq ?_
  refine w_reg ?_
  refine wr_y rfl (y_assign rfl) ?_
  refine wr_nil ?_
  refine w_block ?_
  refine w_loop7 (fun (i : Int) (A1 : Option Addr) (n1 : Nat) (c1 : Nat) (vals : List Value) (ls : List (List Int)) (Rs : List Row) => [(0, .slice A_ws ws.length c_ws), (3, .slice A1 n1 c1), (4, .int .i64 i)]) (fun (i : Int) (A1 : Option Addr) (n1 : Nat) (c1 : Nat) (vals : List Value) (ls : List (List Int)) (Rs : List Row) => (⟨22, 1, A1, n1, c1, vals, false⟩ :: Rs)) (fun (i : Int) (A1 : Option Addr) (n1 : Nat) (c1 : Nat) (vals : List Value) (ls : List (List Int)) (Rs : List Row) => (0 ≤ i) ∧ (i ≤ ws.length) ∧ (n1 = vals.length) ∧ (SlR .u8 Rs vals ls) ∧ (∀ c ∈ ls, ByteL c ∧ 0 < c.length ∧ c.length ≤ 8000) ∧ (CI (ws.take i.toNat) ls)) (fun (i : Int) (A1 : Option Addr) (n1 : Nat) (c1 : Nat) (vals : List Value) (ls : List (List Int)) (Rs : List Row) => (ws.length - i).toNat) ?_ ?_
  ·
    exact ⟨0, none, 0, 0, [], [], [], ⟨(by omega), (by omega), (rfl), (SlR.nilR _ _), (fun c hc => by cases hc), (CI.nil)⟩, (Sub.cons rfl (Sub.cons rfl (Sub.cons rfl Sub.nil))), fun _ h => h⟩
  intro i A1 n1 c1 vals ls Rs ⟨hi0, hi1, hn1, hsl, hok, hci⟩
  have hsn := hsl.1
  have hfew : ls.length ≤ i.toNat := by have h1 := hci.perm.length_eq; rw [List.length_map] at h1; have h2 := ringsOf_few (ws.take i.toNat); rw [List.length_take] at h2; omega
  have hwl : 0 ≤ i → i < ws.length → (rdl ws i).length ≤ 8000 := fun h h' => hN.1 _ (rdl_mem2 h h')
  refine w_seq ?_
  refine w_seq ?_
  refine w_reg ?_
  refine wr_y rfl (y_move rfl) ?_
  refine wr_y rfl (y_move rfl) ?_
  refine wr_y rfl (y_len Try.underlying30 rfl) ?_
  refine wr_y rfl (y_lt rfl rfl) ?_
  refine wr_nil ?_
  refine w_if rfl (fun hc1 => ?_) (fun hc1 => ?_)
  ·
    have hwl2 := hwl hi0 (by omega)
    refine w_skip ?_
    refine w_seq ?_
    refine w_block ?_
    refine w_seq ?_
    refine w_seq ?_
    refine w_reg ?_
    refine wr_y rfl (y_move rfl) ?_
    refine wr_y rfl (y_move rfl) ?_
    refine wr_y rfl (y_index1 Try.underlying30 sz22 rfl rfl (h_ws.c _) (by omega) (by omega)) ?_
    refine s_ws.elim (i := i) (by omega) (by omega) (fun A_1 c_2 hv_3 hr_4 hb_5 mhr_4 => ?_)
    refine wr_y rfl (y_ld Try.underlying22 rfl rfl rfl (h_ws.c _) hv_3) ?_
    refine wr_y rfl (y_len Try.underlying22 rfl) ?_
    refine wr_y rfl (y_eq rfl rfl) ?_
    refine wr_nil ?_
    refine w_if rfl (fun hc2 => ?_) (fun hc2 => ?_)
    ·
      refine w_exit ?_
      refine w_reg ?_
      refine wr_y rfl (y_move rfl) ?_
      refine wr_y rfl (y_addI rfl rfl (by omega)) ?_
      refine wr_y rfl (y_assign rfl) ?_
      refine wr_nil ?_
      exact ⟨i + 1, A1, n1, c1, vals, ls, Rs, ⟨(by omega), (by omega), (hn1), (hsl), (hok), (by rw [take_succ_rdl2 hi0 (by omega)]; exact hci.skip (by omega))⟩, (by omega), (Sub.cons rfl (Sub.cons rfl (Sub.cons rfl Sub.nil))), fun _ h => h⟩
    ·
      refine w_skip ?_
      refine w_seq ?_
      refine w_reg ?_
      refine wr_y rfl (y_move rfl) ?_
      refine wr_y rfl (y_move rfl) ?_
      refine wr_y rfl (y_index1 Try.underlying30 sz22 rfl rfl (h_ws.c _) (by omega) (by omega)) ?_
      refine s_ws.elim (i := i) (by omega) (by omega) (fun A_6 c_7 hv_8 hr_9 hb_10 mhr_9 => ?_)
      refine wr_y rfl (y_ld Try.underlying22 rfl rfl rfl (h_ws.c _) hv_8) ?_
      refine wr_a rfl (a_callF en44 rfl (Ct.fresh (fun w hw => of6_ct ((hr_9.c _) w hw) (by omega)))) ?_
      rintro _ _ ⟨_, rfl, A_11, c_12, rfl, rfl⟩
      refine wr_y rfl (y_assign rfl) ?_
      refine wr_nil ?_
      refine w_seq ?_
      refine w_reg ?_
      refine wr_y rfl (y_move rfl) ?_
      refine wr_y rfl (y_len Try.underlying30 rfl) ?_
      refine wr_y rfl (y_assign rfl) ?_
      refine wr_nil ?_
      refine w_seq ?_
      refine w_block ?_
      refine w_loop1 (fun (j : Int) => [(0, .slice A_ws ws.length c_ws), (3, .slice A1 n1 c1), (4, .int .i64 i), (5, .slice A_11 ((lw (rdl ws i)).length) c_12), (6, .int .i64 j)]) (fun (j : Int) => (⟨5, 1, A_11, (lw (rdl ws i)).length, c_12, ints .u8 (lw (rdl ws i)), false⟩ :: ⟨22, 1, A1, n1, c1, vals, false⟩ :: Rs)) (fun (j : Int) => (0 ≤ j) ∧ (j ≤ n1) ∧ (∀ q : Int, j ≤ q → q < ls.length → kcmp (kw (lw (rdl ws i))) (kw (rdl ls q)) < 0)) (fun (j : Int) => j.toNat) ?_ ?_
      ·
        exact ⟨((n1 : Nat) : Int), ⟨(by omega), (by omega), (fun q h1 h2 => by omega)⟩, (Sub.cons rfl (Sub.cons rfl (Sub.cons rfl (Sub.cons rfl (Sub.cons rfl Sub.nil))))), fun _ h => h⟩
      intro j ⟨hj0, hj1, hup⟩
      have hjm : 0 < j → ByteL (rdl ls (j - 1)) ∧ 0 < (rdl ls (j - 1)).length ∧ (rdl ls (j - 1)).length ≤ 8000 := fun h => hok _ (rdl_mem2 (by omega) (by omega))
      refine w_seq ?_
      refine w_seq ?_
      refine w_reg ?_
      refine wr_y rfl (y_move rfl) ?_
      refine wr_y rfl (y_gt rfl rfl) ?_
      refine wr_y rfl (y_move rfl) ?_
      refine wr_mid 8 [(0, .slice A_ws ws.length c_ws), (3, .slice A1 n1 c1), (4, .int .i64 i), (5, .slice A_11 ((lw (rdl ws i)).length) c_12), (6, .int .i64 j), (36, .bool (decide ((0 < j) ∧ (kcmp (kw (lw (rdl ws i))) (kw (rdl ls (j - 1))) < 0))))] (⟨5, 1, A_11, (lw (rdl ws i)).length, c_12, ints .u8 (lw (rdl ws i)), false⟩ :: ⟨22, 1, A1, n1, c1, vals, false⟩ :: Rs) ?_ ?_
      ·
        refine wr_case 28 rfl (fun hc3 => ?_) (fun hc3 => ?_)
        ·
          refine wr_yes rfl rfl ?_
          refine wr_y rfl (y_move rfl) ?_
          refine wr_yes rfl rfl ?_
          refine wr_y rfl (y_move rfl) ?_
          refine wr_yes rfl rfl ?_
          refine wr_y rfl (y_move rfl) ?_
          refine wr_yes rfl rfl ?_
          refine wr_y rfl (y_subI rfl rfl (by omega)) ?_
          refine wr_yes rfl rfl ?_
          refine wr_y rfl (y_index1 Try.underlying30 sz22 rfl rfl (rdr 1 rfl) (by omega) (by omega)) ?_
          refine wr_yes rfl rfl ?_
          obtain ⟨A_13, c_14, hv_15, hr_16⟩ := hsl.at (i := j - 1) (by omega) (by omega)
          refine wr_y rfl (y_ld Try.underlying22 rfl rfl rfl (rdr 1 rfl) hv_15) ?_
          refine wr_yes rfl rfl ?_
          refine wr_a rfl (a_callF en45 rfl (Ct.quiet (fun w hw => less9_ct ((rdr 0 rfl) w hw) ((fun _ h => hr_16 _ _ _ (h.right (R' := [_, _]))) w hw) (lw_bytes (hob _ (rdl_mem2 hi0 (by omega))).1) (hjm (by omega)).1 (by rw [lw_len]; omega) ⟨(hjm (by omega)).2.1, by have := (hjm (by omega)).2.2; omega⟩))) ?_
          rintro _ _ ⟨rfl, rfl⟩
          refine wr_y rfl (y_pickT rfl rfl) ?_
          refine wr_nil ?_
          exact ⟨(Sub.cons rfl (Sub.cons rfl (Sub.cons rfl (Sub.cons rfl (Sub.cons rfl (Sub.to rfl (mb (by first | omega | exact ⟨fun h => ⟨(by assumption), h⟩, fun h => h.2⟩ | simp [*])) Sub.nil)))))), fun _ h => h⟩
        ·
          refine wr_no rfl rfl rfl rfl ?_
          refine wr_no rfl rfl rfl rfl ?_
          refine wr_no rfl rfl rfl rfl ?_
          refine wr_no rfl rfl rfl rfl ?_
          refine wr_no rfl rfl rfl rfl ?_
          refine wr_no rfl rfl rfl rfl ?_
          refine wr_no rfl rfl rfl rfl ?_
          refine wr_y rfl (y_pickF rfl rfl) ?_
          refine wr_nil ?_
          exact ⟨(Sub.cons rfl (Sub.cons rfl (Sub.cons rfl (Sub.cons rfl (Sub.cons rfl (Sub.to rfl (mb_f (by first | omega | exact ⟨fun h => ⟨(by assumption), h⟩, fun h => h.2⟩ | simp [*])) Sub.nil)))))), fun _ h => h⟩
      refine wr_nil ?_
      refine w_if rfl (fun hc4 => ?_) (fun hc4 => ?_)
      ·
        have hst := hc4
        refine w_skip ?_
        refine w_block ?_
        refine w_reg ?_
        refine wr_y rfl (y_move rfl) ?_
        refine wr_y rfl (y_subI rfl rfl (by omega)) ?_
        refine wr_y rfl (y_assign rfl) ?_
        refine wr_nil ?_
        exact ⟨j - 1, ⟨(by omega), (by omega), (fun q h1 h2 => by
            rcases Int.lt_or_le q j with g | g
            · obtain rfl : q = j - 1 := by omega
              exact hst.2
            · exact hup q g h2)⟩, (by omega), (Sub.cons rfl (Sub.cons rfl (Sub.cons rfl (Sub.cons rfl (Sub.cons rfl Sub.nil))))), fun _ h => h⟩
      ·
        have hst := hc4
        refine w_exit ?_
        refine w_regd mixed ?_
        refine wd_y 1 rfl (by kernel_rfl) rfl (y_move rfl) ?_
        refine wd_y 2 rfl (by kernel_rfl) rfl (y_move rfl) ?_
        refine wd_y 3 rfl (by kernel_rfl) rfl (y_sliceTo Try.underlying30 sz22 rfl rfl (rdr 1 rfl) (by omega) (by omega)) ?_
        refine wd_y 5 rfl (by kernel_rfl) rfl (y_move rfl) ?_
        refine wd_y 8 rfl (by kernel_rfl) rfl (y_move rfl) ?_
        refine wd_y 9 rfl (by kernel_rfl) rfl (y_move rfl) ?_
        refine wd_y 10 rfl (by kernel_rfl) rfl (y_sliceFrom Try.underlying30 sz22 rfl rfl (by omega) (by omega)) ?_
        refine wd_two 0 6 (by kernel_rfl) ?_ ?_
        ·
          refine t1_a 0 rfl rfl (a_lit [] Try.underlying30 zs22 rfl rfl rfl rfl) ?_
          rintro _ _ ⟨g_18, rfl, rfl⟩
          refine ⟨.inr fun _ h => h.right (R' := [_]), ?_⟩
          refine wd_two 4 6 (by kernel_rfl) ?_ ?_
          ·
            refine t1_a 4 rfl rfl (a_append 0 rfl rfl Try.underlying30 zb22 rfl rfl rfl rfl rfl (RdC.toV (rdr 2 rfl) (by omega)) (hsl.take _).one (by dsimp only; omega)) ?_
            rintro _ _ ⟨A_19, c_20, rfl, rfl⟩
            refine ⟨.inl (by kernel_rfl), ?_⟩
            refine wd_rows (R1 := (⟨22, 1, A_19, (0 + ((j).toNat)), c_20, ([]) ++ ((vals).take (j).toNat), false⟩ :: ⟨5, 1, A_11, (lw (rdl ws i)).length, c_12, ints .u8 (lw (rdl ws i)), false⟩ :: ⟨22, 1, A1, n1, c1, vals, false⟩ :: Rs)) rfl ?_
            refine wd_as (v := .slice A_19 (0 + ((j).toNat)) c_20) rfl ?_
            refine wd_a 6 rfl (by kernel_rfl) rfl (a_lit [Value.slice A_11 ((lw (rdl ws i)).length) c_12] Try.underlying30 zs22 rfl rfl rfl rfl) ?_
            rintro _ _ ⟨g_22, rfl, rfl⟩
            refine ⟨.inr fun _ h => h.right (R' := [_]), ?_⟩
            refine wd_a 7 rfl (by kernel_rfl) rfl (a_append 1 rfl rfl Try.underlying30 zb22 rfl rfl rfl rfl rfl (rdr 0 rfl) (by simp [Value.oneCell']) (by dsimp only; omega)) ?_
            rintro _ _ ⟨A_23, c_24, rfl, rfl⟩
            refine ⟨.inl (by kernel_rfl), ?_⟩
            refine wd_rows (R1 := (⟨22, 1, (some ⟨g_22, 0, none⟩), 1, 1, [Value.slice A_11 ((lw (rdl ws i)).length) c_12], false⟩ :: ⟨22, 1, A_23, ((0 + ((j).toNat)) + 1), c_24, (([]) ++ ((vals).take (j).toNat)) ++ ([Value.slice A_11 ((lw (rdl ws i)).length) c_12]), false⟩ :: ⟨5, 1, A_11, (lw (rdl ws i)).length, c_12, ints .u8 (lw (rdl ws i)), false⟩ :: ⟨22, 1, A1, n1, c1, vals, false⟩ :: Rs)) rfl ?_
            refine wd_as (v := .slice A_23 ((0 + ((j).toNat)) + 1) c_24) rfl ?_
            refine wd_a 11 rfl (by kernel_rfl) rfl (a_append 1 rfl rfl Try.underlying30 zb22 rfl rfl rfl rfl rfl (RdC.fromV (rdr 3 rfl) (by omega)) (hsl.drop _).one (by dsimp only; omega)) ?_
            rintro _ _ ⟨A_25, c_26, rfl, rfl⟩
            refine ⟨.inl (by kernel_rfl), ?_⟩
            refine wd_rows (R1 := (⟨22, 1, (some ⟨g_22, 0, none⟩), 1, 1, [Value.slice A_11 ((lw (rdl ws i)).length) c_12], false⟩ :: ⟨22, 1, A_25, (((0 + ((j).toNat)) + 1) + (n1 - (j).toNat)), c_26, ((([]) ++ ((vals).take (j).toNat)) ++ ([Value.slice A_11 ((lw (rdl ws i)).length) c_12])) ++ ((vals).drop (j).toNat), false⟩ :: ⟨5, 1, A_11, (lw (rdl ws i)).length, c_12, ints .u8 (lw (rdl ws i)), false⟩ :: ⟨22, 1, A1, n1, c1, vals, false⟩ :: Rs)) rfl ?_
            refine wd_as (v := .slice A_25 (((0 + ((j).toNat)) + 1) + (n1 - (j).toNat)) c_26) rfl ?_
            refine wd_y 12 rfl (by kernel_rfl) rfl (y_assign rfl) ?_
            refine wd_nil (by kernel_rfl) ?_
            refine w_reg ?_
            refine wr_y rfl (y_move rfl) ?_
            refine wr_y rfl (y_addI rfl rfl (by omega)) ?_
            refine wr_y rfl (y_assign rfl) ?_
            refine wr_nil ?_
            exact ⟨i + 1, A_25, ((0 + ((j).toNat)) + 1) + (n1 - (j).toNat), c_26, ((([]) ++ ((vals).take (j).toNat)) ++ ([Value.slice A_11 ((lw (rdl ws i)).length) c_12])) ++ ((vals).drop (j).toNat), ([] ++ ls.take j.toNat ++ [lw (rdl ws i)] ++ ls.drop j.toNat), (⟨5, 1, A_11, (lw (rdl ws i)).length, c_12, ints .u8 (lw (rdl ws i)), false⟩ :: Rs), ⟨(by omega), (by omega), (by simp only [List.length_append, List.length_take, List.length_drop, List.length_cons, List.length_nil]; omega), (((((SlR.nilR _ _).app (hsl.take _)).right [_]).push rfl (fun _ _ _ h => rdr 0 rfl _ h)).app ((hsl.drop _).right [_])), (ins_ok hok (lw_bytes (hob _ (rdl_mem2 hi0 (by omega))).1) (by rw [lw_len]; omega)), (by rw [take_succ_rdl2 hi0 (by omega)]; exact hci.put (by omega) hj0 (by omega) hup hst)⟩, (by omega), (Sub.cons rfl (Sub.cons rfl (Sub.cons rfl Sub.nil))), fun _ h => h.selR (F := [_, _, _, _]) (F' := [_, _]) [1, 2] (by decide) rfl⟩
          ·
            refine t1_a 6 rfl rfl (a_lit [Value.slice A_11 ((lw (rdl ws i)).length) c_12] Try.underlying30 zs22 rfl rfl rfl rfl) ?_
            rintro _ _ ⟨g_29, rfl, rfl⟩
            refine ⟨.inr fun _ h => h.right (R' := [_]), ?_⟩
            refine wd_a 4 rfl (by kernel_rfl) rfl (a_append 1 rfl rfl Try.underlying30 zb22 rfl rfl rfl rfl rfl (RdC.toV (rdr 3 rfl) (by omega)) (hsl.take _).one (by dsimp only; omega)) ?_
            rintro _ _ ⟨A_30, c_31, rfl, rfl⟩
            refine ⟨.inl (by kernel_rfl), ?_⟩
            refine wd_rows (R1 := (⟨22, 1, (some ⟨g_29, 0, none⟩), 1, 1, [Value.slice A_11 ((lw (rdl ws i)).length) c_12], false⟩ :: ⟨22, 1, A_30, (0 + ((j).toNat)), c_31, ([]) ++ ((vals).take (j).toNat), false⟩ :: ⟨5, 1, A_11, (lw (rdl ws i)).length, c_12, ints .u8 (lw (rdl ws i)), false⟩ :: ⟨22, 1, A1, n1, c1, vals, false⟩ :: Rs)) rfl ?_
            refine wd_as (v := .slice A_30 (0 + ((j).toNat)) c_31) rfl ?_
            refine wd_a 7 rfl (by kernel_rfl) rfl (a_append 1 rfl rfl Try.underlying30 zb22 rfl rfl rfl rfl rfl (rdr 0 rfl) (by simp [Value.oneCell']) (by dsimp only; omega)) ?_
            rintro _ _ ⟨A_32, c_33, rfl, rfl⟩
            refine ⟨.inl (by kernel_rfl), ?_⟩
            refine wd_rows (R1 := (⟨22, 1, (some ⟨g_29, 0, none⟩), 1, 1, [Value.slice A_11 ((lw (rdl ws i)).length) c_12], false⟩ :: ⟨22, 1, A_32, ((0 + ((j).toNat)) + 1), c_33, (([]) ++ ((vals).take (j).toNat)) ++ ([Value.slice A_11 ((lw (rdl ws i)).length) c_12]), false⟩ :: ⟨5, 1, A_11, (lw (rdl ws i)).length, c_12, ints .u8 (lw (rdl ws i)), false⟩ :: ⟨22, 1, A1, n1, c1, vals, false⟩ :: Rs)) rfl ?_
            refine wd_as (v := .slice A_32 ((0 + ((j).toNat)) + 1) c_33) rfl ?_
            refine wd_a 11 rfl (by kernel_rfl) rfl (a_append 1 rfl rfl Try.underlying30 zb22 rfl rfl rfl rfl rfl (RdC.fromV (rdr 3 rfl) (by omega)) (hsl.drop _).one (by dsimp only; omega)) ?_
            rintro _ _ ⟨A_34, c_35, rfl, rfl⟩
            refine ⟨.inl (by kernel_rfl), ?_⟩
            refine wd_rows (R1 := (⟨22, 1, (some ⟨g_29, 0, none⟩), 1, 1, [Value.slice A_11 ((lw (rdl ws i)).length) c_12], false⟩ :: ⟨22, 1, A_34, (((0 + ((j).toNat)) + 1) + (n1 - (j).toNat)), c_35, ((([]) ++ ((vals).take (j).toNat)) ++ ([Value.slice A_11 ((lw (rdl ws i)).length) c_12])) ++ ((vals).drop (j).toNat), false⟩ :: ⟨5, 1, A_11, (lw (rdl ws i)).length, c_12, ints .u8 (lw (rdl ws i)), false⟩ :: ⟨22, 1, A1, n1, c1, vals, false⟩ :: Rs)) rfl ?_
            refine wd_as (v := .slice A_34 (((0 + ((j).toNat)) + 1) + (n1 - (j).toNat)) c_35) rfl ?_
            refine wd_y 12 rfl (by kernel_rfl) rfl (y_assign rfl) ?_
            refine wd_nil (by kernel_rfl) ?_
            refine w_reg ?_
            refine wr_y rfl (y_move rfl) ?_
            refine wr_y rfl (y_addI rfl rfl (by omega)) ?_
            refine wr_y rfl (y_assign rfl) ?_
            refine wr_nil ?_
            exact ⟨i + 1, A_34, ((0 + ((j).toNat)) + 1) + (n1 - (j).toNat), c_35, ((([]) ++ ((vals).take (j).toNat)) ++ ([Value.slice A_11 ((lw (rdl ws i)).length) c_12])) ++ ((vals).drop (j).toNat), ([] ++ ls.take j.toNat ++ [lw (rdl ws i)] ++ ls.drop j.toNat), (⟨5, 1, A_11, (lw (rdl ws i)).length, c_12, ints .u8 (lw (rdl ws i)), false⟩ :: Rs), ⟨(by omega), (by omega), (by simp only [List.length_append, List.length_take, List.length_drop, List.length_cons, List.length_nil]; omega), (((((SlR.nilR _ _).app (hsl.take _)).right [_]).push rfl (fun _ _ _ h => rdr 0 rfl _ h)).app ((hsl.drop _).right [_])), (ins_ok hok (lw_bytes (hob _ (rdl_mem2 hi0 (by omega))).1) (by rw [lw_len]; omega)), (by rw [take_succ_rdl2 hi0 (by omega)]; exact hci.put (by omega) hj0 (by omega) hup hst)⟩, (by omega), (Sub.cons rfl (Sub.cons rfl (Sub.cons rfl Sub.nil))), fun _ h => h.selR (F := [_, _, _, _]) (F' := [_, _]) [1, 2] (by decide) rfl⟩
        ·
          refine t1_a 6 rfl rfl (a_lit [Value.slice A_11 ((lw (rdl ws i)).length) c_12] Try.underlying30 zs22 rfl rfl rfl rfl) ?_
          rintro _ _ ⟨g_38, rfl, rfl⟩
          refine ⟨.inr fun _ h => h.right (R' := [_]), ?_⟩
          refine wd_a 0 rfl (by kernel_rfl) rfl (a_lit [] Try.underlying30 zs22 rfl rfl rfl rfl) ?_
          rintro _ _ ⟨g_40, rfl, rfl⟩
          refine ⟨.inr fun _ h => h.right (R' := [_]), ?_⟩
          refine wd_a 4 rfl (by kernel_rfl) rfl (a_append 0 rfl rfl Try.underlying30 zb22 rfl rfl rfl rfl rfl (RdC.toV (rdr 3 rfl) (by omega)) (hsl.take _).one (by dsimp only; omega)) ?_
          rintro _ _ ⟨A_41, c_42, rfl, rfl⟩
          refine ⟨.inl (by kernel_rfl), ?_⟩
          refine wd_rows (R1 := (⟨22, 1, A_41, (0 + ((j).toNat)), c_42, ([]) ++ ((vals).take (j).toNat), false⟩ :: ⟨22, 1, (some ⟨g_38, 0, none⟩), 1, 1, [Value.slice A_11 ((lw (rdl ws i)).length) c_12], false⟩ :: ⟨5, 1, A_11, (lw (rdl ws i)).length, c_12, ints .u8 (lw (rdl ws i)), false⟩ :: ⟨22, 1, A1, n1, c1, vals, false⟩ :: Rs)) rfl ?_
          refine wd_as (v := .slice A_41 (0 + ((j).toNat)) c_42) rfl ?_
          refine wd_a 7 rfl (by kernel_rfl) rfl (a_append 0 rfl rfl Try.underlying30 zb22 rfl rfl rfl rfl rfl (rdr 1 rfl) (by simp [Value.oneCell']) (by dsimp only; omega)) ?_
          rintro _ _ ⟨A_43, c_44, rfl, rfl⟩
          refine ⟨.inl (by kernel_rfl), ?_⟩
          refine wd_rows (R1 := (⟨22, 1, A_43, ((0 + ((j).toNat)) + 1), c_44, (([]) ++ ((vals).take (j).toNat)) ++ ([Value.slice A_11 ((lw (rdl ws i)).length) c_12]), false⟩ :: ⟨22, 1, (some ⟨g_38, 0, none⟩), 1, 1, [Value.slice A_11 ((lw (rdl ws i)).length) c_12], false⟩ :: ⟨5, 1, A_11, (lw (rdl ws i)).length, c_12, ints .u8 (lw (rdl ws i)), false⟩ :: ⟨22, 1, A1, n1, c1, vals, false⟩ :: Rs)) rfl ?_
          refine wd_as (v := .slice A_43 ((0 + ((j).toNat)) + 1) c_44) rfl ?_
          refine wd_a 11 rfl (by kernel_rfl) rfl (a_append 0 rfl rfl Try.underlying30 zb22 rfl rfl rfl rfl rfl (RdC.fromV (rdr 3 rfl) (by omega)) (hsl.drop _).one (by dsimp only; omega)) ?_
          rintro _ _ ⟨A_45, c_46, rfl, rfl⟩
          refine ⟨.inl (by kernel_rfl), ?_⟩
          refine wd_rows (R1 := (⟨22, 1, A_45, (((0 + ((j).toNat)) + 1) + (n1 - (j).toNat)), c_46, ((([]) ++ ((vals).take (j).toNat)) ++ ([Value.slice A_11 ((lw (rdl ws i)).length) c_12])) ++ ((vals).drop (j).toNat), false⟩ :: ⟨22, 1, (some ⟨g_38, 0, none⟩), 1, 1, [Value.slice A_11 ((lw (rdl ws i)).length) c_12], false⟩ :: ⟨5, 1, A_11, (lw (rdl ws i)).length, c_12, ints .u8 (lw (rdl ws i)), false⟩ :: ⟨22, 1, A1, n1, c1, vals, false⟩ :: Rs)) rfl ?_
          refine wd_as (v := .slice A_45 (((0 + ((j).toNat)) + 1) + (n1 - (j).toNat)) c_46) rfl ?_
          refine wd_y 12 rfl (by kernel_rfl) rfl (y_assign rfl) ?_
          refine wd_nil (by kernel_rfl) ?_
          refine w_reg ?_
          refine wr_y rfl (y_move rfl) ?_
          refine wr_y rfl (y_addI rfl rfl (by omega)) ?_
          refine wr_y rfl (y_assign rfl) ?_
          refine wr_nil ?_
          exact ⟨i + 1, A_45, ((0 + ((j).toNat)) + 1) + (n1 - (j).toNat), c_46, ((([]) ++ ((vals).take (j).toNat)) ++ ([Value.slice A_11 ((lw (rdl ws i)).length) c_12])) ++ ((vals).drop (j).toNat), ([] ++ ls.take j.toNat ++ [lw (rdl ws i)] ++ ls.drop j.toNat), (⟨5, 1, A_11, (lw (rdl ws i)).length, c_12, ints .u8 (lw (rdl ws i)), false⟩ :: Rs), ⟨(by omega), (by omega), (by simp only [List.length_append, List.length_take, List.length_drop, List.length_cons, List.length_nil]; omega), (((((SlR.nilR _ _).app (hsl.take _)).right [_]).push rfl (fun _ _ _ h => rdr 0 rfl _ h)).app ((hsl.drop _).right [_])), (ins_ok hok (lw_bytes (hob _ (rdl_mem2 hi0 (by omega))).1) (by rw [lw_len]; omega)), (by rw [take_succ_rdl2 hi0 (by omega)]; exact hci.put (by omega) hj0 (by omega) hup hst)⟩, (by omega), (Sub.cons rfl (Sub.cons rfl (Sub.cons rfl Sub.nil))), fun _ h => h.selR (F := [_, _, _, _]) (F' := [_, _]) [0, 2] (by decide) rfl⟩
  ·
    refine w_exit ?_
    refine w_seq ?_
    refine w_reg ?_
    refine wr_y rfl (y_move rfl) ?_
    refine wr_y rfl (y_assign rfl) ?_
    refine wr_nil ?_
    refine w_retR (R1 := (⟨22, 1, A1, n1, c1, vals, false⟩ :: Rs)) (fun _ h => h) ?_
    refine ⟨_, rfl, ?_⟩
    obtain rfl : i = ws.length := by omega
    rw [Int.toNat_natCast, List.take_length] at hci
    obtain rfl : ls = canon ws := hci.done fun c hc => (hok c hc).2.1
    subst hn1
    exact ⟨_, _, vals, Rs, rfl, hsl, rfl⟩

end Go.Proofs.Ytdfcnalkdlifiaa
