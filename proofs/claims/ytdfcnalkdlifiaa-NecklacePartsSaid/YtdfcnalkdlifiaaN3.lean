/- Walks of Go functions, printed by a program of our own. -/
import Derived.Test.YtdfcnalkdlifiaaN2
import Derived.Test.YtdfcnalkdlifiaaF6
import Derived.Test.YtdfcnalkdlifiaaE28
import Derived.Test.YtdfcnalkdlifiaaS3
import Derived.Test.YtdfcnalkdlifiaaS4
namespace Go.Proofs.Ytdfcnalkdlifiaa
open Go Go.Eng Go.Pure
set_option linter.unusedVariables false
theorem mulN_ct {B : Nat} {w0 : World} {R : List Row} (x y : Nat) (hx : x ≤ 1000000) (hy : y ≤ 1000000) (h : x * y ≤ 1000000) : Ct Try.prog 69 #[.int .u64 ((x : Nat) : Int), .int .u64 ((y : Nat) : Int)] B w0 R (fun v R' => v = .tuple #[.int .u64 0, .int .u64 ((x * y : Nat) : Int)] ∧ R' = R) := by
  intro w hw
  have hc := Try.bits_Mul x y (by omega) (by omega) w
  rw [Nat.div_eq_of_lt (by omega), Nat.mod_eq_of_lt (by omega)] at hc
  refine hc.mono ?_
  rintro e w' ⟨rfl, rfl⟩
  exact ⟨_, R, rfl, hw, rfl, rfl⟩
theorem wrap_u64M {p : Int} (h : 0 ≤ p ∧ p ≤ 18446744073709551615) : IntKind.u64.wrap p = p := by rw [IntKind.wrap_u64]; omega
/-! bytes.Repeat -/
set_option maxRecDepth 100000 in
set_option maxHeartbeats 800000 in
theorem repeatB_ct {w : World} {A_u : Option Addr} {n_u c_u : Nat} {u : List Int} {cn : Int} (h_u : Rd w A_u n_u c_u 1 (ints .u8 u)) (hu : 0 < u.length) (hc : 1 ≤ cn) (hP : cn.toNat * u.length ≤ 8000) :
    Ct Try.prog 41 #[.slice A_u n_u c_u, .int .i64 cn] w.heap.size w [] (fun v R' => ∃ A c, v = .slice A (rep u cn).length c ∧ R' = [⟨5, 1, A, (rep u cn).length, c, ints .u8 (rep u cn), true⟩]) := by
  obtain rfl := h_u.lenI
  refine fn1 Try.func41 rfl rfl rfl ?_
  have m_u := h_u.max
  obtain ⟨N, hN1⟩ : ∃ N : Nat, u.length * cn.toNat = N := ⟨_, rfl⟩
  have hN2 : cn.toNat * u.length = N := by rw [Nat.mul_comm]; exact hN1
  have hN3 : u.length ≤ N := by rw [← hN2]; exact Nat.le_mul_of_pos_left _ (by omega)
  have hN4 : cn.toNat ≤ N := by rw [← hN1]; exact Nat.le_mul_of_pos_left _ hu
  refine w_seq ?_
  refine w_reg ?_
  refine wr_y rfl (y_assign rfl) ?_
  refine wr_nil ?_
  refine w_seq ?_
  refine w_seq ?_
  refine w_reg ?_
  refine wr_y rfl (y_move rfl) ?_
  refine wr_y rfl (Yl.f (y_eq rfl rfl) (by omega)) ?_
  refine wr_nil ?_
  refine w_false rfl ?_
  refine w_skip ?_
  refine w_seq ?_
  refine w_seq ?_
  refine w_reg ?_
  refine wr_y rfl (y_move rfl) ?_
  refine wr_y rfl (Yl.f (y_lt rfl rfl) (by omega)) ?_
  refine wr_nil ?_
  refine w_false rfl ?_
  refine w_skip ?_
  refine w_seq ?_
  refine w_reg ?_
  refine wr_y rfl (y_move rfl) ?_
  refine wr_y rfl (y_len Try.underlying22 rfl) ?_
  refine wr_y rfl (Yl.is (y_conv Try.underlying3 Try.underlying84 rfl) (by rw [wrap_u64M (by omega)])) ?_
  refine wr_y rfl (y_move rfl) ?_
  refine wr_y rfl (Yl.is (y_conv Try.underlying3 Try.underlying84 rfl) (show Value.int .u64 (IntKind.u64.wrap cn) = Value.int .u64 ((cn.toNat : Nat) : Int) from by rw [wrap_u64M (by omega), Int.toNat_of_nonneg (by omega)])) ?_
  refine wr_a rfl (a_callF en69 rfl (mulN_ct u.length cn.toNat (by omega) (by omega) (by omega))) ?_
  rw [hN1]
  rintro _ _ ⟨rfl, rfl⟩
  refine wr_y rfl (y_move rfl) ?_
  refine wr_y rfl (y_extract rfl rfl) ?_
  refine wr_y rfl (y_extract rfl rfl) ?_
  refine wr_y rfl (y_assign rfl) ?_
  refine wr_y rfl (y_assign rfl) ?_
  refine wr_nil ?_
  refine w_seq ?_
  refine w_seq ?_
  refine w_reg ?_
  refine wr_y rfl (y_move rfl) ?_
  refine wr_y rfl (Yl.f (y_gt rfl rfl) (by omega)) ?_
  refine wr_y rfl (y_move rfl) ?_
  refine wr_yes rfl rfl ?_
  refine wr_y rfl (y_move rfl) ?_
  refine wr_yes rfl rfl ?_
  refine wr_y rfl (Yl.f (y_gt rfl rfl) (by omega)) ?_
  refine wr_y rfl (y_pickF rfl rfl) ?_
  refine wr_nil ?_
  refine w_false rfl ?_
  refine w_skip ?_
  refine w_seq ?_
  refine w_reg ?_
  refine wr_y rfl (y_move rfl) ?_
  refine wr_y rfl (y_convI Try.underlying84 Try.underlying3 rfl (by omega)) ?_
  refine wr_y rfl (y_assign rfl) ?_
  refine wr_nil ?_
  refine w_seq ?_
  refine w_seq ?_
  refine w_reg ?_
  refine wr_y rfl (y_move rfl) ?_
  refine wr_y rfl (y_len Try.underlying22 rfl) ?_
  refine wr_y rfl (Yl.f (y_eq rfl rfl) (by omega)) ?_
  refine wr_nil ?_
  refine w_false rfl ?_
  refine w_skip ?_
  refine w_seq ?_
  refine w_reg ?_
  refine wr_y rfl (y_move rfl) ?_
  refine wr_y rfl (y_assign rfl) ?_
  refine wr_nil ?_
  refine w_seq ?_
  refine w_seq ?_
  refine w_reg ?_
  refine wr_y rfl (y_move rfl) ?_
  refine wr_y rfl (Yl.f (y_gt rfl rfl) (by omega)) ?_
  refine wr_nil ?_
  refine w_false rfl ?_
  refine w_skip ?_
  refine w_seq ?_
  refine w_reg ?_
  refine wr_y rfl (y_move rfl) ?_
  refine wr_a rfl (a_noZero (m := N) (ps := #[3]) Try.func70 (by kernel_rfl) (by kernel_rfl) (by kernel_rfl) (by kernel_rfl) Try.underlying22 rfl (by omega)) ?_
  rintro _ _ ⟨g_1, C_2, hC, rfl, rfl⟩
  refine wr_y rfl (y_move rfl) ?_
  refine wr_y rfl (y_move rfl) ?_
  refine wr_y rfl (y_sliceHM (h := N) Try.underlying22 sz5 rfl rfl rfl rfl rfl hC) ?_
  refine wr_y rfl (y_assign rfl) ?_
  refine wr_nil ?_
  refine w_seq ?_
  refine w_reg ?_
  refine wr_y rfl (y_move rfl) ?_
  refine wr_y rfl (y_move rfl) ?_
  refine wr_a rfl (a_copyEnd (dl := N) 0 rfl Try.underlying22 sz5 rfl rfl (rfl) (by omega) (h_u.c _)) ?_
  rintro _ _ ⟨rfl, rfl⟩
  refine wr_rows (R1 := [⟨5, 1, (some ⟨g_1, 0, none⟩), (0 + min u.length N), C_2, ints .u8 (([]) ++ List.take (min u.length N) u), false⟩]) rfl ?_
  refine wr_y rfl (y_assign rfl) ?_
  refine wr_nil ?_
  refine w_seq ?_
  refine w_block ?_
  refine w_loop3 (fun (p : Int) (n1 : Nat) (D : List Int) => [(7, .int .i64 ((N : Nat) : Int)), (8, .int .i64 ((N : Nat) : Int)), (9, .slice (some ⟨g_1, 0, none⟩) N N), (10, .int .i64 p)]) (fun (p : Int) (n1 : Nat) (D : List Int) => [⟨5, 1, (some ⟨g_1, 0, none⟩), n1, C_2, ints .u8 D, false⟩]) (fun (p : Int) (n1 : Nat) (D : List Int) => (n1 = D.length) ∧ (RepI u D N p)) (fun (p : Int) (n1 : Nat) (D : List Int) => (N - p).toNat) ?_ ?_
  ·
    exact ⟨((min u.length N : Nat) : Int), (0 + min u.length N), ([]) ++ List.take (min u.length N) u, ⟨(by rw [List.nil_append, List.length_take]; omega), (RepI.init hN3)⟩, (Sub.cons rfl (Sub.cons rfl (Sub.cons rfl (Sub.cons rfl Sub.nil)))), fun _ h => h⟩
  intro p n1 D ⟨hn1, hI⟩
  have hI1 := hI.p0
  have hI2 := hI.pN
  have hI3 := hI.len
  have hI4 := hI.up
  refine w_seq ?_
  refine w_seq ?_
  refine w_reg ?_
  refine wr_y rfl (y_move rfl) ?_
  refine wr_y rfl (y_move rfl) ?_
  refine wr_y rfl (y_lt rfl rfl) ?_
  refine wr_nil ?_
  refine w_if rfl (fun hc1 => ?_) (fun hc1 => ?_)
  ·
    refine w_skip ?_
    refine w_block ?_
    refine w_seq ?_
    refine w_reg ?_
    refine wr_y rfl (y_move rfl) ?_
    refine wr_y rfl (y_move rfl) ?_
    refine wr_y rfl (y_min rfl rfl) ?_
    refine wr_y rfl (y_assign rfl) ?_
    refine wr_nil ?_
    refine w_regd mixed ?_
    refine wd_y 0 rfl (by kernel_rfl) rfl (y_move rfl) ?_
    refine wd_y 1 rfl (by kernel_rfl) rfl (y_move rfl) ?_
    refine wd_y 2 rfl (by kernel_rfl) rfl (y_move rfl) ?_
    refine wd_y 3 rfl (by kernel_rfl) rfl (y_sliceFrom Try.underlying22 sz5 rfl rfl (by omega) (by omega)) ?_
    refine wd_y 4 rfl (by kernel_rfl) rfl (y_move rfl) ?_
    refine wd_y 5 rfl (by kernel_rfl) rfl (y_move rfl) ?_
    refine wd_y 6 rfl (by kernel_rfl) rfl (y_sliceH Try.underlying22 sz5 rfl rfl (by omega) (by omega)) ?_
    refine wd_a 7 rfl (by kernel_rfl) rfl (a_copyEnd (dl := (N - (p).toNat)) 0 rfl Try.underlying22 sz5 rfl rfl (by rw [cut_addr (by omega), show p.toNat = n1 by omega]) (by omega) (RdC.capI (RdC.toI (rdr 0 rfl) (by omega)) (by omega))) ?_
    rintro _ _ ⟨rfl, rfl⟩
    refine ⟨.inl (by kernel_rfl), ?_⟩
    refine wd_rows (R1 := [⟨5, 1, (some ⟨g_1, 0, none⟩), (n1 + min ((min p ((N : Nat) : Int)).toNat) (N - (p).toNat)), C_2, ints .u8 (D ++ List.take (min ((min p ((N : Nat) : Int)).toNat) (N - (p).toNat)) ((D).take (min p ((N : Nat) : Int)).toNat)), false⟩]) rfl ?_
    refine wd_y 8 rfl (by kernel_rfl) rfl (y_addI rfl rfl (by omega)) ?_
    refine wd_y 9 rfl (by kernel_rfl) rfl (y_assign rfl) ?_
    refine wd_nil (by kernel_rfl) ?_
    exact ⟨p + ((min ((min p ((N : Nat) : Int)).toNat) (N - (p).toNat) : Nat) : Int), (n1 + min ((min p ((N : Nat) : Int)).toNat) (N - (p).toNat)), D ++ List.take (min ((min p ((N : Nat) : Int)).toNat) (N - (p).toNat)) ((D).take (min p ((N : Nat) : Int)).toNat), ⟨(by rw [List.length_append, List.length_take, List.length_take]; omega), (hI.step hu (by omega))⟩, (by omega), (Sub.cons rfl (Sub.cons rfl (Sub.cons rfl (Sub.cons rfl Sub.nil)))), fun _ h => h⟩
  ·
    refine w_exit ?_
    refine w_seq ?_
    refine w_reg ?_
    refine wr_y rfl (y_move rfl) ?_
    refine wr_y rfl (y_assign rfl) ?_
    refine wr_nil ?_
    obtain rfl := hn1
    obtain rfl := hI.done (by omega) hN2.symm
    have hrl : (rep u cn).length = N := by rw [rep_length]; omega
    refine w_retR (R1 := [⟨5, 1, some ⟨g_1, 0, none⟩, (rep u cn).length, (rep u cn).length, ints .u8 (rep u cn), true⟩]) (fun _ h => h.toRo (by simp) (Nat.le_refl _)) ?_
    rw [← hrl]
    exact ⟨_, rfl, _, _, rfl, rfl⟩

theorem rdl_mem2 {ws : List (List Int)} {i : Int} (h0 : 0 ≤ i) (h1 : i < ws.length) : rdl ws i ∈ ws := by
  unfold rdl
  rw [List.getD_eq_getElem?_getD, List.getElem?_eq_getElem (by omega)]
  exact List.getElem_mem _
theorem take_succ_rdl2 {ws : List (List Int)} {i : Int} (h0 : 0 ≤ i) (h1 : i < ws.length) : ws.take (i + 1).toNat = ws.take i.toNat ++ [rdl ws i] := by
  rw [show (i + 1).toNat = i.toNat + 1 by omega, List.take_add_one, List.getElem?_eq_getElem (by omega)]
  unfold rdl
  rw [List.getD_eq_getElem?_getD, List.getElem?_eq_getElem (by omega)]
  rfl
theorem orL_kcmp (x y : List Int) (a b : Int) : orL [cmpL x y, cmpI a b] = kcmp (x, a) (y, b) := by
  unfold kcmp orL orL orL
  simp only
  split
  · rfl
  · split
    · rfl
    · omega
theorem rings_yes {ws : List (List Int)} {l : List RC} {i : Int} {A : Option Addr} {c : Nat} (h0 : 0 ≤ i) (h1 : i < ws.length) (hl : l.map RC.rt = ringsOf (ws.take i.toNat)) (ht : 0 < timesW (lw (rdl ws i))) : (l ++ [(⟨A, c, rootW (lw (rdl ws i)), timesW (lw (rdl ws i))⟩ : RC)]).map RC.rt = ringsOf (ws.take (i + 1).toNat) := by
  have hp : 0 < (rdl ws i).length := by
    rcases Nat.eq_zero_or_pos (rdl ws i).length with z | z
    · rw [List.eq_nil_of_length_eq_zero z] at ht
      simp [lw_nil, timesW] at ht
    · exact z
  rw [List.map_append, hl, take_succ_rdl2 h0 h1, ringsOf_append]
  congr 1
  unfold ringsOf
  simp [hp, RC.rt, ringOf]
theorem rings_no {ws : List (List Int)} {l : List RC} {i : Int} (h0 : 0 ≤ i) (h1 : i < ws.length) (hl : l.map RC.rt = ringsOf (ws.take i.toNat)) (ht : ¬ 0 < timesW (lw (rdl ws i))) : l.map RC.rt = ringsOf (ws.take (i + 1).toNat) := by
  have hp : (rdl ws i).length = 0 := by
    rcases Nat.eq_zero_or_pos (rdl ws i).length with z | z
    · exact z
    · exact absurd (times_pos (c := lw (rdl ws i)) (by rw [lw_len]; exact z)) ht
  rw [hl, take_succ_rdl2 h0 h1, ringsOf_append]
  unfold ringsOf
  simp [hp]
theorem ringsOf_few (ws : List (List Int)) : (ringsOf ws).length ≤ ws.length := by
  unfold ringsOf
  rw [List.length_map]
  exact List.length_filter_le _ _
theorem lw_bytes {u : List Int} (h : ByteL u) : ByteL (lw u) := ByteL.append (h.drop _) (h.take _)
theorem kcmp_swo : Go.Sort.SWO (Go.Proofs.ltOf fun x y : RC => kcmp x.rt y.rt) := by
  have e : ∀ x y : RC, Go.Proofs.ltOf (fun x y : RC => kcmp x.rt y.rt) x y = true ↔ kcmp x.rt y.rt < 0 := fun x y => by simp [Go.Proofs.ltOf]
  have e' : ∀ x y : RC, Go.Proofs.ltOf (fun x y : RC => kcmp x.rt y.rt) x y = false ↔ kcmp y.rt x.rt ≤ 0 := fun x y => by
    rw [← Bool.not_eq_true, e, kcmp_anti x.rt y.rt]; omega
  refine ⟨fun x => ?_, fun x y z h1 h2 => ?_, fun x y z h1 h2 => ?_⟩
  · rw [e', (kcmp_eq x.rt x.rt).2 rfl]; omega
  · rw [e] at h1 h2 ⊢
    have h3 := kcmp_le x.rt y.rt z.rt (by omega) (by omega)
    rcases Int.lt_or_eq_of_le h3 with g | g
    · exact g
    · have g2 := (kcmp_eq _ _).1 g
      rw [g2, kcmp_anti y.rt z.rt] at h1
      omega
  · rw [e'] at h1 h2 ⊢
    exact kcmp_le _ _ _ h2 h1
theorem ring_ok {ws : List (List Int)} {lr : List RC} {M : Nat} (hl : lr.map RC.rt = ringS ws) (hM : ∀ w ∈ ws, w.length ≤ M) {r : RC} (hr : r ∈ lr) : 0 < r.root.length ∧ 1 ≤ r.times ∧ r.times.toNat * r.root.length ≤ M := by
  have h1 : r.rt ∈ ringS ws := by rw [← hl]; exact List.mem_map_of_mem hr
  obtain ⟨w, hw, hp, e⟩ := mem_ringS h1
  have hp' : 0 < (lw w).length := by rw [lw_len]; exact hp
  have e1 : r.root = rootW (lw w) := congrArg Prod.fst e
  have e2 : r.times = timesW (lw w) := congrArg Prod.snd e
  have h2 := root_len hp'
  have h3 := rl_range hp'
  have h4 := times_pos hp'
  have h5 := congrArg List.length (unring_root hp')
  rw [rep_length, lw_len] at h5
  rw [e1, e2]
  exact ⟨by omega, by omega, by rw [h5]; exact hM w hw⟩
theorem canon_step {lr : List RC} {i : Int} (h0 : 0 ≤ i) (h1 : i < lr.length) : (lr.take (i + 1).toNat).map (fun r => rep r.root r.times) = (lr.take i.toNat).map (fun r => rep r.root r.times) ++ [rep (rdG lr i).root (rdG lr i).times] := by
  rw [show (i + 1).toNat = i.toNat + 1 by omega, List.take_add_one, List.getElem?_eq_getElem (by omega), List.map_append]
  unfold rdG
  rw [List.getD_eq_getElem?_getD, List.getElem?_eq_getElem (by omega)]
  rfl
theorem canon_done {ws : List (List Int)} {lr : List RC} {i : Int} (hl : lr.map RC.rt = ringS ws) (hi : (lr.length : Int) ≤ i) : (lr.take i.toNat).map (fun r => rep r.root r.times) = canon ws := by
  rw [List.take_of_length_le (by omega)]
  unfold canon
  rw [← hl, List.map_map]
  rfl
/-! whorl/necklace.rings$1 -/
set_option maxRecDepth 100000 in
theorem ringCmp_ct {w : World} {A_x : Option Addr} {c_x : Nat} {x : List Int} {t_x : Int} {A_y : Option Addr} {c_y : Nat} {y : List Int} {t_y : Int} (h_x : Rd w A_x x.length c_x 1 (ints .u8 x)) (h_y : Rd w A_y y.length c_y 1 (ints .u8 y)) (bh_x : ByteL x) (bh_y : ByteL y) :
    Ct Try.prog 65 #[.agg #[.slice A_x x.length c_x, .int .i64 t_x], .agg #[.slice A_y y.length c_y, .int .i64 t_y]] w.heap.size w [] (fun v R' => v = .int .i64 (kcmp (x, t_x) (y, t_y))) := by
  refine fn1 Try.func65 rfl rfl rfl ?_
  refine w_seq ?_
  refine w_reg ?_
  refine wr_a rfl (a_box (sz := 2) rfl rfl) ?_
  rintro _ _ ⟨g_1, rfl, rfl⟩
  refine wr_rows (R1 := [⟨57, 2, (some ⟨g_1, 0, none⟩), 1, 1, [.slice A_x x.length c_x, .int .i64 t_x], false⟩]) rfl ?_
  refine wr_a rfl (a_box (sz := 2) rfl rfl) ?_
  rintro _ _ ⟨g_3, rfl, rfl⟩
  refine wr_rows (R1 := [⟨57, 2, (some ⟨g_3, 0, none⟩), 1, 1, [.slice A_y y.length c_y, .int .i64 t_y], false⟩, ⟨57, 2, (some ⟨g_1, 0, none⟩), 1, 1, [.slice A_x x.length c_x, .int .i64 t_x], false⟩]) rfl ?_
  refine wr_y rfl (y_assign rfl) ?_
  refine wr_nil ?_
  refine w_seq ?_
  refine w_regd mixed ?_
  refine wd_y 0 rfl (by kernel_rfl) rfl (y_fieldAt (off := 0) (m := 0) Try.underlying57 rfl sz22 rfl rfl rfl) ?_
  refine wd_y 1 rfl (by kernel_rfl) rfl (y_ldIn (rdR 1 (r := ⟨57, 2, (some ⟨g_1, 0, none⟩), 1, 1, [.slice A_x x.length c_x, .int .i64 t_x], false⟩) rfl) Try.underlying22 rfl rfl rfl) ?_
  refine wd_y 2 rfl (by kernel_rfl) rfl (y_fieldAt (off := 0) (m := 0) Try.underlying57 rfl sz22 rfl rfl rfl) ?_
  refine wd_y 3 rfl (by kernel_rfl) rfl (y_ldIn (rdR 0 (r := ⟨57, 2, (some ⟨g_3, 0, none⟩), 1, 1, [.slice A_y y.length c_y, .int .i64 t_y], false⟩) rfl) Try.underlying22 rfl rfl rfl) ?_
  refine wd_y 5 rfl (by kernel_rfl) rfl (y_fieldAt (off := 1) (m := 1) Try.underlying57 rfl sz3 rfl rfl rfl) ?_
  refine wd_y 6 rfl (by kernel_rfl) rfl (y_ldIn (rdR 1 (r := ⟨57, 2, (some ⟨g_1, 0, none⟩), 1, 1, [.slice A_x x.length c_x, .int .i64 t_x], false⟩) rfl) Try.underlying3 rfl rfl rfl) ?_
  refine wd_y 7 rfl (by kernel_rfl) rfl (y_fieldAt (off := 1) (m := 1) Try.underlying57 rfl sz3 rfl rfl rfl) ?_
  refine wd_y 8 rfl (by kernel_rfl) rfl (y_ldIn (rdR 0 (r := ⟨57, 2, (some ⟨g_3, 0, none⟩), 1, 1, [.slice A_y y.length c_y, .int .i64 t_y], false⟩) rfl) Try.underlying3 rfl rfl rfl) ?_
  refine wd_a 4 rfl (by kernel_rfl) rfl (a_callF en67 rfl (Ct.quiet (fun w hw => compareBB_ct ((h_x.c _) w hw) ((h_y.c _) w hw) bh_x bh_y))) ?_
  rintro _ _ ⟨rfl, rfl⟩
  refine ⟨.inr fun _ h => h, ?_⟩
  refine wd_a 9 rfl (by kernel_rfl) rfl (a_callF en68 rfl (Ct.quiet (fun w hw => compareI_ct))) ?_
  rintro _ _ ⟨rfl, rfl⟩
  refine ⟨.inr fun _ h => h, ?_⟩
  refine wd_a 10 rfl (by kernel_rfl) rfl (a_litI .i64 [cmpL x y, cmpI t_x t_y] Try.underlying35 zs3 rfl rfl rfl) ?_
  rintro _ _ ⟨g_6, rfl, rfl⟩
  refine ⟨.inr fun _ h => h.right (R' := [_]), ?_⟩
  refine wd_a 11 rfl (by kernel_rfl) rfl (a_callF en66 rfl (Ct.quiet (fun w hw => orI_ct ((rdr 0 rfl) w hw)))) ?_
  rintro _ _ ⟨rfl, rfl⟩
  refine ⟨.inr fun _ h => h, ?_⟩
  refine wd_y 12 rfl (by kernel_rfl) rfl (y_assign rfl) ?_
  refine wd_nil (by kernel_rfl) ?_
  refine w_retR (R1 := []) (fun _ h => h.sel [] (by decide) rfl) ?_
  refine ⟨_, rfl, ?_⟩
  exact congrArg (Value.int .i64) (orL_kcmp x y t_x t_y)

theorem sortsRings (cb : Array Value) : SortsK Try.prog 64 65 cb 2 := fun α _ enc hk h1 cf hO blk off cap d w hcmp hH hblk hsz =>
  AnyQ.slices_SortFunc Try.laysRing 2 (fun w => by kernel_rfl) (fun w => by kernel_rfl) enc hk h1 cf hO 65 cb blk off cap d w en65 hcmp hH hblk hsz
theorem sortsRings0 : SortsNone Try.prog 64 := fun p cap fv w => AnyF.slices_SortFunc_none Try.laysRing p cap fv w
/-! whorl/necklace.rings -/
set_option maxRecDepth 100000 in
set_option maxHeartbeats 1000000 in
theorem rings_ct {w : World} {A_ws : Option Addr} {n_ws c_ws : Nat} {vals_ws : List Value} {ws : List (List Int)} (h_ws : Rd w A_ws n_ws c_ws 1 vals_ws) (s_ws : SlW .u8 w vals_ws ws) (hN : (∀ w ∈ ws, w.length ≤ 8000) ∧ ws.length ≤ 100000) :
    Ct Try.prog 40 #[.slice A_ws n_ws c_ws] w.heap.size w [] (fun v R' => ∃ (A : Option Addr) (c : Nat) (l : List RC) (Rs : List Row), v = .slice A l.length c ∧ RgR Rs l ∧ l.map RC.rt = ringS ws ∧ R' = ⟨57, 2, A, l.length, c, rgs l, false⟩ :: Rs) := by
  obtain rfl : n_ws = ws.length := by have := h_ws.len; have := s_ws.1; omega
  refine fn1 Try.func40 rfl rfl rfl ?_
  have m_ws := h_ws.max
  have hob := s_ws.okB
  refine w_seq ?_
  refine w_reg ?_
  refine wr_y rfl (y_assign rfl) ?_
  refine wr_nil ?_
  refine w_seq ?_
  refine w_reg ?_
  refine wr_sub (R1 := (⟨57, 2, none, 0, 0, rgs ([]), false⟩ :: [])) (Sub.refl _) (fun _ h => h.nil 57 2) ?_
  refine wr_y rfl (y_assign rfl) ?_
  refine wr_nil ?_
  refine w_seq ?_
  refine w_seq ?_
  refine w_reg ?_
  refine wr_y rfl (y_move rfl) ?_
  refine wr_y rfl (y_len Try.underlying30 rfl) ?_
  refine wr_y rfl (y_move rfl) ?_
  refine wr_nil ?_
  refine w_block ?_
  refine w_loop6 (fun (i : Int) (A1 : Option Addr) (n1 : Nat) (c1 : Nat) (l : List RC) (Rs : List Row) => [(3, .slice A1 n1 c1), (8, .slice A_ws ws.length c_ws), (9, .int .i64 ((ws.length : Nat) : Int)), (10, .int .i64 i)]) (fun (i : Int) (A1 : Option Addr) (n1 : Nat) (c1 : Nat) (l : List RC) (Rs : List Row) => (⟨57, 2, A1, n1, c1, rgs l, false⟩ :: Rs)) (fun (i : Int) (A1 : Option Addr) (n1 : Nat) (c1 : Nat) (l : List RC) (Rs : List Row) => (0 ≤ i) ∧ (i ≤ ws.length) ∧ (n1 = l.length) ∧ (RgR Rs l) ∧ (l.map RC.rt = ringsOf (ws.take i.toNat))) (fun (i : Int) (A1 : Option Addr) (n1 : Nat) (c1 : Nat) (l : List RC) (Rs : List Row) => (ws.length - i).toNat) ?_ ?_
  ·
    exact ⟨0, none, 0, 0, [], [], ⟨(by omega), (by omega), (rfl), (RgR.nil _), (rfl)⟩, (Sub.cons rfl (Sub.cons rfl (Sub.cons rfl (Sub.cons rfl Sub.nil)))), fun _ h => h⟩
  intro i A1 n1 c1 l Rs ⟨hi0, hi1, hn1, hrg, hl⟩
  have hll := congrArg List.length hl
  rw [List.length_map] at hll
  have hlf := ringsOf_few (ws.take i.toNat)
  rw [List.length_take] at hlf
  have hwl : 0 ≤ i → i < ws.length → (rdl ws i).length ≤ 8000 := fun h h' => hN.1 _ (rdl_mem2 h h')
  refine w_seq ?_
  refine w_reg ?_
  refine wr_y rfl (y_lt rfl rfl) ?_
  refine wr_nil ?_
  refine w_seq ?_
  refine w_if rfl (fun hc1 => ?_) (fun hc1 => ?_)
  ·
    have hwl2 := hwl hi0 (by omega)
    refine w_skip ?_
    refine w_seq ?_
    refine w_block ?_
    refine w_seq ?_
    refine w_reg ?_
    refine wr_y rfl (y_index1 Try.underlying30 sz22 rfl rfl (h_ws.c _) (by omega) (by omega)) ?_
    refine s_ws.elim (i := i) (by omega) (by omega) (fun A_1 c_2 hv_3 hr_4 hb_5 mhr_4 => ?_)
    refine wr_y rfl (y_ld Try.underlying22 rfl rfl rfl (h_ws.c _) hv_3) ?_
    refine wr_y rfl (y_assign rfl) ?_
    refine wr_nil ?_
    refine w_seq ?_
    refine w_reg ?_
    refine wr_y rfl (y_move rfl) ?_
    refine wr_a rfl (a_callF en63 rfl (Ct.fresh (fun w hw => ofL_ct ((hr_4.c _) w hw) (byteL_wf hb_5) (by omega)))) ?_
    rintro _ _ ⟨_, rfl, A_6, c_7, rfl, rfl⟩
    refine wr_a rfl (a_callF en62 rfl (Ct.fresh (fun w hw => rootP_ct ((rdr 0 rfl) w hw) (by rw [lw_len]; omega)))) ?_
    rintro _ _ ⟨_, rfl, A_9, c_10, rfl, rfl⟩
    refine wr_y rfl (y_move rfl) ?_
    refine wr_y rfl (y_extract rfl rfl) ?_
    refine wr_y rfl (y_extract rfl rfl) ?_
    refine wr_y rfl (y_assign rfl) ?_
    refine wr_y rfl (y_assign rfl) ?_
    refine wr_nil ?_
    refine w_seq ?_
    refine w_reg ?_
    refine wr_y rfl (y_move rfl) ?_
    refine wr_y rfl (y_gt rfl rfl) ?_
    refine wr_nil ?_
    refine w_if rfl (fun hc2 => ?_) (fun hc2 => ?_)
    ·
      refine w_reg ?_
      refine wr_y rfl (y_move rfl) ?_
      refine wr_y rfl (y_move rfl) ?_
      refine wr_y rfl (y_move rfl) ?_
      refine wr_y rfl (y_build (v := .agg #[.slice A_9 ((rootW (lw (rdl ws i))).length) c_10, .int .i64 (timesW (lw (rdl ws i)))]) rfl (fun w => by kernel_rfl)) ?_
      refine wr_a rfl (a_litR ⟨A_9, c_10, rootW (lw (rdl ws i)), timesW (lw (rdl ws i))⟩ Try.underlying54 zs57 rfl) ?_
      rintro _ _ ⟨g_12, rfl, rfl⟩
      refine wr_a rfl (a_appendR 3 rfl Try.underlying54 zb57 rfl rfl rfl rfl (rdr 0 rfl) (by omega)) ?_
      rintro _ _ ⟨A_13, c_14, rfl, rfl⟩
      refine wr_rows (R1 := (⟨57, 2, (some ⟨g_12, 0, none⟩), 1, 1, rgs ([⟨A_9, c_10, rootW (lw (rdl ws i)), timesW (lw (rdl ws i))⟩]), false⟩ :: ⟨5, 1, A_9, (rootW (lw (rdl ws i))).length, c_10, ints .u8 (rootW (lw (rdl ws i))), false⟩ :: ⟨5, 1, A_6, (lw (rdl ws i)).length, c_7, ints .u8 (lw (rdl ws i)), false⟩ :: ⟨57, 2, A_13, (n1 + 1), c_14, rgs (l ++ ([⟨A_9, c_10, rootW (lw (rdl ws i)), timesW (lw (rdl ws i))⟩])), false⟩ :: Rs)) rfl ?_
      refine wr_as (v := .slice A_13 (n1 + 1) c_14) rfl ?_
      refine wr_y rfl (y_assign rfl) ?_
      refine wr_nil ?_
      refine w_reg ?_
      refine wr_y rfl (y_addI rfl rfl (by omega)) ?_
      refine wr_y rfl (y_move rfl) ?_
      refine wr_nil ?_
      exact ⟨i + 1, A_13, n1 + 1, c_14, l ++ ([⟨A_9, c_10, rootW (lw (rdl ws i)), timesW (lw (rdl ws i))⟩]), (⟨5, 1, A_9, (rootW (lw (rdl ws i))).length, c_10, ints .u8 (rootW (lw (rdl ws i))), false⟩ :: Rs), ⟨(by omega), (by omega), (by rw [List.length_append, hn1]; rfl), (hrg.snoc rfl (ByteL.take (lw_bytes (hob _ (rdl_mem2 hi0 (by omega))).1) _)), (rings_yes hi0 (by omega) hl (by assumption))⟩, (by omega), (Sub.cons rfl (Sub.cons rfl (Sub.cons rfl (Sub.cons rfl Sub.nil)))), fun _ h => h.selR (F := [_, _, _, _]) (F' := [_, _]) [3, 1] (by decide) rfl⟩
    ·
      refine w_skip ?_
      refine w_reg ?_
      refine wr_y rfl (y_addI rfl rfl (by omega)) ?_
      refine wr_y rfl (y_move rfl) ?_
      refine wr_nil ?_
      exact ⟨i + 1, A1, n1, c1, l, Rs, ⟨(by omega), (by omega), (hn1), (hrg), (rings_no hi0 (by omega) hl (by assumption))⟩, (by omega), (Sub.cons rfl (Sub.cons rfl (Sub.cons rfl (Sub.cons rfl Sub.nil)))), fun _ h => h.selR (F := [_, _, _]) (F' := [_]) [2] (by decide) rfl⟩
  ·
    obtain rfl := hn1
    obtain rfl : i = ws.length := by omega
    rw [Int.toNat_natCast, List.take_length] at hl
    refine w_exit ?_
    refine w_seq ?_
    refine w_reg ?_
    refine wr_y rfl (y_move rfl) ?_
    refine wr_a rfl (a_callF en64 rfl (sort_cells (enc := encR) (sortsRings _) sortsRings0 (fun _ => rfl) encR_one (l := l) 0 rfl (by omega) (fun x y => kcmp x.rt y.rt) kcmp_swo (fun W hW x hx y hy => ringCmp_ct ((hrg x hx).2 _ _ _ hW) ((hrg y hy).2 _ _ _ hW) (hrg x hx).1 (hrg y hy).1))) ?_
    rintro _ _ ⟨rfl, l1, hp1, hs1, rfl⟩
    rw [← hp1.length_eq]
    refine wr_rows (R1 := (⟨57, 2, A1, l1.length, c1, rgs l1, false⟩ :: Rs)) rfl ?_
    refine wr_nil ?_
    refine w_seq ?_
    refine w_reg ?_
    refine wr_y rfl (y_move rfl) ?_
    refine wr_y rfl (y_assign rfl) ?_
    refine wr_nil ?_
    refine w_retR (R1 := (⟨57, 2, A1, l1.length, c1, rgs l1, false⟩ :: Rs)) (fun _ h => h) ?_
    refine ⟨_, rfl, ?_⟩
    exact ⟨_, _, l1, Rs, rfl, hrg.perm hp1, ringS_one ((hp1.map RC.rt).trans (by rw [hl])) (List.pairwise_map.2 (hs1.imp fun {a b} h => by rw [kcmp_anti a.rt b.rt] at h; omega)), rfl⟩

end Go.Proofs.Ytdfcnalkdlifiaa
