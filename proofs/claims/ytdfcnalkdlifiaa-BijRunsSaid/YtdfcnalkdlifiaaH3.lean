/- Walks of Go functions, printed by a program of our own. -/
import Derived.Test.YtdfcnalkdlifiaaH2
import Derived.Test.YtdfcnalkdlifiaaE8
namespace Go.Proofs.Ytdfcnalkdlifiaa
open Go Go.Eng Go.Pure
set_option linter.unusedVariables false
/-! whorl/bij.Turn -/
set_option maxRecDepth 100000 in
theorem bijTurnLong_ct {w : World} {A_u : Option Addr} {n_u c_u : Nat} {u : List Int} (h_u : Rd w A_u n_u c_u 1 (ints .u8 u)) (hN : 100000 < u.length) :
    Ct Try.prog 14 #[.slice A_u n_u c_u] w.heap.size w [] (fun v R' => v = .tuple #[.slice none 0 0, .int .i64 2]) := by
  obtain rfl := h_u.lenI
  refine fn2 Try.func14 rfl rfl rfl ?_
  have m_u := h_u.max
  refine w_seq ?_
  refine w_reg ?_
  refine wr_y rfl (y_assign rfl) ?_
  refine wr_y rfl (y_assign rfl) ?_
  refine wr_nil ?_
  refine w_seq ?_
  refine w_seq ?_
  refine w_reg ?_
  refine wr_y rfl (y_move rfl) ?_
  refine wr_y rfl (y_len Try.underlying22 rfl) ?_
  refine wr_y rfl (Yl.t (y_gt rfl rfl) (by omega)) ?_
  refine wr_nil ?_
  refine w_true rfl ?_
  refine w_seq ?_
  refine w_reg ?_
  refine wr_y rfl (y_assign rfl) ?_
  refine wr_y rfl (y_assign rfl) ?_
  refine wr_nil ?_
  refine w_ret ?_
  refine ⟨_, _, rfl, rfl, ?_⟩
  rfl

/-! whorl/bij.Back -/
set_option maxRecDepth 100000 in
theorem bijBackLong_ct {w : World} {A_u : Option Addr} {n_u c_u : Nat} {u : List Int} (h_u : Rd w A_u n_u c_u 1 (ints .u8 u)) (hN : 100000 < u.length) :
    Ct Try.prog 31 #[.slice A_u n_u c_u] w.heap.size w [] (fun v R' => v = .tuple #[.slice none 0 0, .int .i64 2]) := by
  obtain rfl := h_u.lenI
  refine fnV Try.func31 rfl rfl ?_
  have m_u := h_u.max
  refine v_seqW ?_
  refine w_reg ?_
  refine wr_a rfl (a_box (sz := 1) rfl rfl) ?_
  rintro _ _ ⟨g_1, rfl, rfl⟩
  refine wr_rows (R1 := [⟨22, 1, (some ⟨g_1, 0, none⟩), 1, 1, [.slice A_u u.length c_u], false⟩]) rfl ?_
  refine wr_y rfl (y_assign rfl) ?_
  refine wr_y rfl (y_assign rfl) ?_
  refine wr_nil ?_
  refine v_seqW ?_
  refine w_seq ?_
  refine w_reg ?_
  refine wr_y rfl (y_ldIn (rdR 0 (r := ⟨22, 1, (some ⟨g_1, 0, none⟩), 1, 1, [.slice A_u u.length c_u], false⟩) rfl) Try.underlying22 rfl rfl rfl) ?_
  refine wr_y rfl (y_len Try.underlying22 rfl) ?_
  refine wr_y rfl (Yl.t (y_gt rfl rfl) (by omega)) ?_
  refine wr_nil ?_
  refine w_true rfl ?_
  refine w_seq ?_
  refine w_reg ?_
  refine wr_y rfl (y_assign rfl) ?_
  refine wr_y rfl (y_assign rfl) ?_
  refine wr_nil ?_
  refine w_retR (R1 := []) (fun _ h => h.sel [] (by decide) rfl) ?_
  refine fin2 rfl Gd.refl ⟨_, _, rfl, rfl, ?_⟩
  rfl

/-! whorl/whorllaw23.BijBacks -/
set_option maxRecDepth 100000 in
set_option maxHeartbeats 800000 in
theorem bijBacks_ct {w : World} {A_u : Option Addr} {n_u c_u : Nat} {u : List Int} (h_u : Rd w A_u n_u c_u 1 (ints .u8 u)) (bh_u : ByteL u) :
    Ct Try.prog 8 #[.slice A_u n_u c_u] w.heap.size w [] (fun v R' => v = .bool true) := by
  obtain rfl := h_u.lenI
  refine fn1 Try.func8 rfl rfl rfl ?_
  have m_u := h_u.max
  refine w_seq ?_
  refine w_reg ?_
  refine wr_y rfl (y_assign rfl) ?_
  refine wr_nil ?_
  refine w_seq ?_
  refine w_seq ?_
  refine w_reg ?_
  refine wr_y rfl (y_move rfl) ?_
  refine wr_y rfl (y_len Try.underlying22 rfl) ?_
  refine wr_y rfl (y_gt rfl rfl) ?_
  refine wr_nil ?_
  refine w_if rfl (fun hc1 => ?_) (fun hc1 => ?_)
  ·
    refine w_seq ?_
    refine w_reg ?_
    refine wr_y rfl (y_assign rfl) ?_
    refine wr_nil ?_
    refine w_ret ?_
    refine ⟨_, rfl, ?_⟩
    rfl
  ·
    refine w_skip ?_
    refine w_seq ?_
    refine w_reg ?_
    refine wr_a rfl (a_litI .u8 [] Try.underlying22 zs5 rfl rfl rfl) ?_
    rintro _ _ ⟨g_2, rfl, rfl⟩
    refine wr_y rfl (y_move rfl) ?_
    refine wr_a rfl (a_appendI 0 rfl Try.underlying22 zb5 rfl rfl rfl (h_u.c _) (by omega)) ?_
    rintro _ _ ⟨A_3, c_4, rfl, rfl⟩
    refine wr_rows (R1 := [⟨5, 1, A_3, (0 + u.length), c_4, ints .u8 (([]) ++ u), false⟩]) rfl ?_
    refine wr_as (v := .slice A_3 (0 + u.length) c_4) rfl ?_
    refine wr_a rfl (a_callF en31 rfl (Ct.fresh (fun w hw => bijBack_ct ((rdr 0 rfl) w hw) bh_u (by show u.length ≤ 100000; omega)))) ?_
    rintro _ _ ⟨_, rfl, A_5, c_6, rfl, rfl⟩
    refine wr_y rfl (y_move rfl) ?_
    refine wr_y rfl (y_extract rfl rfl) ?_
    refine wr_y rfl (y_extract rfl rfl) ?_
    refine wr_y rfl (y_assign rfl) ?_
    refine wr_y rfl (y_assign rfl) ?_
    refine wr_nil ?_
    refine w_seq ?_
    refine w_regd mixed ?_
    refine wd_y 0 rfl (by kernel_rfl) rfl (y_move rfl) ?_
    refine wd_y 1 rfl (by kernel_rfl) rfl (Yl.t (y_eq rfl rfl) (rfl)) ?_
    refine wd_y 2 rfl (by kernel_rfl) rfl (y_move rfl) ?_
    refine wd_yg 3 rfl (by kernel_rfl) rfl rfl rfl (y_move rfl) ?_
    refine wd_yg 4 rfl (by kernel_rfl) rfl rfl rfl (y_toStr Try.underlying22 Try.underlying5 Try.underlying9 rfl (rdr 0 rfl)) ?_
    refine wd_yg 5 rfl (by kernel_rfl) rfl rfl rfl (y_move rfl) ?_
    refine wd_ag 6 rfl (by kernel_rfl) rfl rfl rfl (a_callF en32 rfl (Ct.fresh (fun w hw => back23_ct ((h_u.c _) w hw) bh_u (by omega)))) ?_
    rintro _ _ ⟨_, rfl, A_8, c_9, rfl, rfl⟩
    refine ⟨.inr fun _ h => h.right (R' := [_]), ?_⟩
    refine wd_yg 7 rfl (by kernel_rfl) rfl rfl rfl (y_toStr Try.underlying22 Try.underlying5 Try.underlying9 rfl (rdr 0 rfl)) ?_
    refine wd_yg 8 rfl (by kernel_rfl) rfl rfl rfl (Yl.t (y_eqL rfl rfl (backL_byt bh_u _) (backL_byt bh_u _)) (rfl)) ?_
    refine wd_y 9 rfl (by kernel_rfl) rfl (y_pickT rfl rfl) ?_
    refine wd_y 10 rfl (by kernel_rfl) rfl (y_move rfl) ?_
    refine wd_ag 11 rfl (by kernel_rfl) rfl rfl rfl (a_callF en16 rfl (Ct.quiet (fun w hw => known23_ct))) ?_
    rintro _ _ ⟨rfl, rfl⟩
    refine ⟨.inr fun _ h => h, ?_⟩
    refine wd_y 12 rfl (by kernel_rfl) rfl (y_pickT rfl rfl) ?_
    refine wd_y 13 rfl (by kernel_rfl) rfl (y_assign rfl) ?_
    refine wd_nil (by kernel_rfl) ?_
    refine w_retR (R1 := []) (fun _ h => h.sel [] (by decide) rfl) ?_
    refine ⟨_, rfl, ?_⟩
    rfl

theorem last_rep {n : Nat} {c : Int} {lt : List (Int × Int)} (h : lt.Perm (tlist (bws (List.replicate n c)) (bws (List.replicate n c)).length)) : lt.map (lastB (bws (List.replicate n c))) = List.replicate n c := by
  have := last_perm h
  rw [bws_flat] at this
  exact List.perm_replicate.1 this
theorem back_rep {n : Nat} {c : Int} (hb : ByteL (List.replicate n c)) : backL (List.replicate n c) (cycL (fsL (List.replicate n c))) = List.replicate n c := by
  have hp := fsL_perm hb
  have hi := cycL_in hp
  refine all_eq (by rw [backL_len, cycL_all hp, fsL_len, List.length_replicate]) fun x hx => ?_
  obtain ⟨y, hy, rfl⟩ := mem_backL hx
  obtain ⟨cy, hcy, hyc⟩ := List.mem_flatten.1 hy
  have h := hi cy hcy y hyc
  rw [fsL_len] at h
  exact List.eq_of_mem_replicate (rd_mem h.1 h.2)
/-! whorl/whorllaw23.BijRuns -/
set_option maxRecDepth 100000 in
set_option maxHeartbeats 1000000 in
theorem bijRuns_ct {w : World} {n : Int} {c : Int} (hc : 0 ≤ c ∧ c < 256) :
    Ct Try.prog 10 #[.int .i64 n, .int .u8 c] w.heap.size w [] (fun v R' => v = .bool true) := by
  refine fn1 Try.func10 rfl rfl rfl ?_
  refine w_seq ?_
  refine w_reg ?_
  refine wr_y rfl (y_assign rfl) ?_
  refine wr_nil ?_
  refine w_seq ?_
  refine w_seq ?_
  refine w_reg ?_
  refine wr_y rfl (y_move rfl) ?_
  refine wr_y rfl (y_lt rfl rfl) ?_
  refine wr_y rfl (y_move rfl) ?_
  refine wr_mid 3 [(0, .int .i64 n), (1, .int .u8 c), (20, .bool (decide ((n < 0) ∨ (60 < n))))] [] ?_ ?_
  ·
    refine wr_case 17 rfl (fun hc1 => ?_) (fun hc1 => ?_)
    ·
      refine wr_no rfl rfl rfl rfl ?_
      refine wr_no rfl rfl rfl rfl ?_
      refine wr_y rfl (y_pickT rfl rfl) ?_
      refine wr_nil ?_
      exact ⟨(Sub.cons rfl (Sub.cons rfl (Sub.to rfl (mb_t (by first | omega | exact ⟨fun h => ⟨(by assumption), h⟩, fun h => h.2⟩ | simp [*])) Sub.nil))), fun _ h => h⟩
    ·
      refine wr_yes rfl rfl ?_
      refine wr_y rfl (y_move rfl) ?_
      refine wr_yes rfl rfl ?_
      refine wr_y rfl (y_gt rfl rfl) ?_
      refine wr_y rfl (y_pickF rfl rfl) ?_
      refine wr_nil ?_
      exact ⟨(Sub.cons rfl (Sub.cons rfl (Sub.to rfl (mb (by first | omega | exact ⟨fun h => ⟨(by assumption), h⟩, fun h => h.2⟩ | simp [*])) Sub.nil))), fun _ h => h⟩
  refine wr_nil ?_
  refine w_if rfl (fun hc2 => ?_) (fun hc2 => ?_)
  ·
    refine w_seq ?_
    refine w_reg ?_
    refine wr_y rfl (y_assign rfl) ?_
    refine wr_nil ?_
    refine w_ret ?_
    refine ⟨_, rfl, ?_⟩
    rfl
  ·
    refine w_skip ?_
    refine w_seq ?_
    refine w_reg ?_
    refine wr_y rfl (y_move rfl) ?_
    refine wr_a rfl (a_makeN Try.underlying22 zb5 rfl rfl (by omega) (by omega) (by omega)) ?_
    rintro _ _ ⟨g_1, rfl, rfl⟩
    refine wr_rows (R1 := [⟨5, 1, (some ⟨g_1, 0, none⟩), ((n).toNat), ((n).toNat), ints .u8 (List.replicate ((n).toNat) (0 : Int)), false⟩]) rfl ?_
    refine wr_as (v := .slice (some ⟨g_1, 0, none⟩) ((n).toNat) ((n).toNat)) rfl ?_
    refine wr_y rfl (y_assign rfl) ?_
    refine wr_nil ?_
    refine w_seq ?_
    refine w_seq ?_
    refine w_reg ?_
    refine wr_y rfl (y_assign rfl) ?_
    refine wr_nil ?_
    refine w_block ?_
    refine w_loop2 (fun (i : Int) (S : List Int) => [(0, .int .i64 n), (1, .int .u8 c), (5, .slice (some ⟨g_1, 0, none⟩) ((n).toNat) ((n).toNat)), (6, .int .i64 i)]) (fun (i : Int) (S : List Int) => [⟨5, 1, (some ⟨g_1, 0, none⟩), ((n).toNat), ((n).toNat), ints .u8 S, false⟩]) (fun (i : Int) (S : List Int) => (0 ≤ i) ∧ (i ≤ n) ∧ (S.length = n.toNat) ∧ (∀ j : Int, 0 ≤ j → j < i → rd S j = c)) (fun (i : Int) (S : List Int) => (n - i).toNat) ?_ ?_
    ·
      exact ⟨0, List.replicate ((n).toNat) (0 : Int), ⟨(by omega), (by omega), (by rw [List.length_replicate]), (fun j h1 h2 => by omega)⟩, (Sub.cons rfl (Sub.cons rfl (Sub.cons rfl (Sub.cons rfl Sub.nil)))), fun _ h => h⟩
    intro i S ⟨hi0, hi1, hSl, hS⟩
    refine w_seq ?_
    refine w_seq ?_
    refine w_reg ?_
    refine wr_y rfl (y_move rfl) ?_
    refine wr_y rfl (y_move rfl) ?_
    refine wr_y rfl (y_lt rfl rfl) ?_
    refine wr_nil ?_
    refine w_if rfl (fun hc3 => ?_) (fun hc3 => ?_)
    ·
      refine w_skip ?_
      refine w_seq ?_
      refine w_block ?_
      refine w_reg ?_
      refine wr_y rfl (y_move rfl) ?_
      refine wr_y rfl (y_move rfl) ?_
      refine wr_y rfl (y_move rfl) ?_
      refine wr_y rfl (y_index1 Try.underlying22 sz5 rfl rfl (rdr 0 rfl) (by omega) (by omega)) ?_
      refine wr_n (a_storeI 0 rfl sz5 rfl rfl (by omega) (by omega)) ?_
      rintro _ _ rfl
      refine wr_rows (R1 := [⟨5, 1, (some ⟨g_1, 0, none⟩), ((n).toNat), ((n).toNat), ints .u8 (upd S i c), false⟩]) rfl ?_
      refine wr_nil ?_
      refine w_reg ?_
      refine wr_y rfl (y_move rfl) ?_
      refine wr_y rfl (y_addI rfl rfl (by omega)) ?_
      refine wr_y rfl (y_assign rfl) ?_
      refine wr_nil ?_
      exact ⟨i + 1, upd S i c, ⟨(by omega), (by omega), (by rw [upd_length]; exact hSl), (fill_step (f := fun _ => c) hi0 (by omega) hS rfl)⟩, (by omega), (Sub.cons rfl (Sub.cons rfl (Sub.cons rfl (Sub.cons rfl Sub.nil)))), fun _ h => h⟩
    ·
      obtain rfl : S = List.replicate n.toNat c := list_ext_rd (by rw [List.length_replicate]; exact hSl) fun j h0 h1 => by
        rw [hS j h0 (by omega)]
        unfold rd
        rw [List.getD_eq_getElem?_getD, List.getElem?_replicate, if_pos (by omega)]
        rfl
      have hsb : ByteL (List.replicate n.toNat c) := fun x hx => by have := List.eq_of_mem_replicate hx; omega
      have hsl : (List.replicate n.toNat c).length = n.toNat := List.length_replicate
      refine w_exit ?_
      refine w_seq ?_
      refine w_reg ?_
      refine wr_y rfl (y_move rfl) ?_
      refine wr_a rfl (a_callF en14 rfl (Ct.fresh (fun w hw => bijTurn_ct ((rdr 0 rfl) w hw) hsb (by omega)))) ?_
      rintro _ _ ⟨_, rfl, l1, A_2, c_3, rfl, hpt_l1, hst_l1, rfl⟩
      refine wr_y rfl (y_move rfl) ?_
      refine wr_y rfl (y_extract rfl rfl) ?_
      refine wr_y rfl (y_extract rfl rfl) ?_
      refine wr_y rfl (y_assign rfl) ?_
      refine wr_y rfl (y_assign rfl) ?_
      refine wr_nil ?_
      refine w_seq ?_
      refine w_reg ?_
      refine wr_y rfl (y_move rfl) ?_
      refine wr_a rfl (a_callF en31 rfl (Ct.fresh (fun w hw => bijBack_ct ((rdr 1 rfl) w hw) hsb (by omega)))) ?_
      rintro _ _ ⟨_, rfl, A_5, c_6, rfl, rfl⟩
      refine wr_y rfl (y_move rfl) ?_
      refine wr_y rfl (y_extract rfl rfl) ?_
      refine wr_y rfl (y_extract rfl rfl) ?_
      refine wr_y rfl (y_assign rfl) ?_
      refine wr_y rfl (y_assign rfl) ?_
      refine wr_nil ?_
      refine w_seq ?_
      refine w_reg ?_
      refine wr_a rfl (a_makeN Try.underlying22 zb5 rfl rfl (by omega) (by omega) (by omega)) ?_
      rintro _ _ ⟨g_9, rfl, rfl⟩
      refine wr_rows (R1 := [⟨5, 1, (some ⟨g_9, 0, none⟩), ((100001 : Int).toNat), ((100001 : Int).toNat), ints .u8 (List.replicate ((100001 : Int).toNat) (0 : Int)), false⟩, ⟨5, 1, A_5, (backL (List.replicate n.toNat c) (cycL (fsL (List.replicate n.toNat c)))).length, c_6, ints .u8 (backL (List.replicate n.toNat c) (cycL (fsL (List.replicate n.toNat c)))), false⟩, ⟨5, 1, A_2, l1.length, c_3, ints .u8 (l1.map (lastB (bws (List.replicate n.toNat c)))), false⟩, ⟨5, 1, (some ⟨g_1, 0, none⟩), ((n).toNat), ((n).toNat), ints .u8 (List.replicate n.toNat c), false⟩]) rfl ?_
      refine wr_as (v := .slice (some ⟨g_9, 0, none⟩) ((100001 : Int).toNat) ((100001 : Int).toNat)) rfl ?_
      refine wr_a rfl (a_callF en14 rfl (Ct.quiet (fun w hw => bijTurnLong_ct ((rdr 0 rfl) w hw) (by rw [List.length_replicate]; decide)))) ?_
      rintro _ _ ⟨rfl, rfl⟩
      refine wr_y rfl (y_move rfl) ?_
      refine wr_y rfl (y_extract rfl rfl) ?_
      refine wr_y rfl (y_extract rfl rfl) ?_
      refine wr_y rfl (y_assign rfl) ?_
      refine wr_y rfl (y_assign rfl) ?_
      refine wr_nil ?_
      refine w_seq ?_
      refine w_reg ?_
      refine wr_a rfl (a_makeN Try.underlying22 zb5 rfl rfl (by omega) (by omega) (by omega)) ?_
      rintro _ _ ⟨g_11, rfl, rfl⟩
      refine wr_rows (R1 := [⟨5, 1, (some ⟨g_11, 0, none⟩), ((100001 : Int).toNat), ((100001 : Int).toNat), ints .u8 (List.replicate ((100001 : Int).toNat) (0 : Int)), false⟩, ⟨5, 1, (some ⟨g_9, 0, none⟩), ((100001 : Int).toNat), ((100001 : Int).toNat), ints .u8 (List.replicate ((100001 : Int).toNat) (0 : Int)), false⟩, ⟨5, 1, A_5, (backL (List.replicate n.toNat c) (cycL (fsL (List.replicate n.toNat c)))).length, c_6, ints .u8 (backL (List.replicate n.toNat c) (cycL (fsL (List.replicate n.toNat c)))), false⟩, ⟨5, 1, A_2, l1.length, c_3, ints .u8 (l1.map (lastB (bws (List.replicate n.toNat c)))), false⟩, ⟨5, 1, (some ⟨g_1, 0, none⟩), ((n).toNat), ((n).toNat), ints .u8 (List.replicate n.toNat c), false⟩]) rfl ?_
      refine wr_as (v := .slice (some ⟨g_11, 0, none⟩) ((100001 : Int).toNat) ((100001 : Int).toNat)) rfl ?_
      refine wr_a rfl (a_callF en31 rfl (Ct.quiet (fun w hw => bijBackLong_ct ((rdr 0 rfl) w hw) (by rw [List.length_replicate]; decide)))) ?_
      rintro _ _ ⟨rfl, rfl⟩
      refine wr_y rfl (y_move rfl) ?_
      refine wr_y rfl (y_extract rfl rfl) ?_
      refine wr_y rfl (y_extract rfl rfl) ?_
      refine wr_y rfl (y_assign rfl) ?_
      refine wr_y rfl (y_assign rfl) ?_
      refine wr_nil ?_
      refine w_seq ?_
      refine w_reg ?_
      refine wr_y rfl (y_move rfl) ?_
      refine wr_y rfl (Yl.t (y_eq rfl rfl) (rfl)) ?_
      refine wr_y rfl (y_move rfl) ?_
      refine wr_yes rfl rfl ?_
      refine wr_y rfl (y_move rfl) ?_
      refine wr_yes rfl rfl ?_
      refine wr_y rfl (Yl.t (y_eq rfl rfl) (rfl)) ?_
      refine wr_y rfl (y_pickT rfl rfl) ?_
      refine wr_y rfl (y_move rfl) ?_
      refine wr_yes rfl rfl ?_
      refine wr_y rfl (y_move rfl) ?_
      refine wr_yes rfl rfl ?_
      refine wr_y rfl (y_toStr Try.underlying22 Try.underlying5 Try.underlying9 rfl (rdr 3 rfl)) ?_
      refine wr_yes rfl rfl ?_
      refine wr_y rfl (y_move rfl) ?_
      refine wr_yes rfl rfl ?_
      refine wr_y rfl (y_toStr Try.underlying22 Try.underlying5 Try.underlying9 rfl (rdr 4 rfl)) ?_
      refine wr_yes rfl rfl ?_
      refine wr_y rfl (Yl.t (y_eqL rfl rfl (by rw [last_rep hpt_l1]; exact hsb) hsb) (last_rep hpt_l1)) ?_
      refine wr_y rfl (y_pickT rfl rfl) ?_
      refine wr_y rfl (y_move rfl) ?_
      refine wr_yes rfl rfl ?_
      refine wr_y rfl (y_move rfl) ?_
      refine wr_yes rfl rfl ?_
      refine wr_y rfl (y_toStr Try.underlying22 Try.underlying5 Try.underlying9 rfl (rdr 2 rfl)) ?_
      refine wr_yes rfl rfl ?_
      refine wr_y rfl (y_move rfl) ?_
      refine wr_yes rfl rfl ?_
      refine wr_y rfl (y_toStr Try.underlying22 Try.underlying5 Try.underlying9 rfl (rdr 4 rfl)) ?_
      refine wr_yes rfl rfl ?_
      refine wr_y rfl (Yl.t (y_eqL rfl rfl (backL_byt hsb _) hsb) (back_rep hsb)) ?_
      refine wr_y rfl (y_pickT rfl rfl) ?_
      refine wr_y rfl (y_move rfl) ?_
      refine wr_yes rfl rfl ?_
      refine wr_y rfl (y_move rfl) ?_
      refine wr_yes rfl rfl ?_
      refine wr_y rfl (Yl.t (y_eq rfl rfl) (rfl)) ?_
      refine wr_y rfl (y_pickT rfl rfl) ?_
      refine wr_y rfl (y_move rfl) ?_
      refine wr_yes rfl rfl ?_
      refine wr_y rfl (y_move rfl) ?_
      refine wr_yes rfl rfl ?_
      refine wr_y rfl (Yl.t (y_eq rfl rfl) (rfl)) ?_
      refine wr_y rfl (y_pickT rfl rfl) ?_
      refine wr_y rfl (y_move rfl) ?_
      refine wr_yes rfl rfl ?_
      refine wr_a rfl (a_callF en16 rfl (Ct.quiet (fun w hw => known23_ct))) ?_
      rintro _ _ ⟨rfl, rfl⟩
      refine wr_y rfl (y_pickT rfl rfl) ?_
      refine wr_y rfl (y_assign rfl) ?_
      refine wr_nil ?_
      refine w_retR (R1 := []) (fun _ h => h.sel [] (by decide) rfl) ?_
      refine ⟨_, rfl, ?_⟩
      rfl

end Go.Proofs.Ytdfcnalkdlifiaa
