/- Walks of Go functions, printed by a program of our own. -/
import Derived.Test.YtlagmdccneompaaI2
import Derived.Test.YtlagmdccneompaaE23
namespace Go.Proofs.Ytlagmdccneompaa
open Go Go.Eng Go.Pure
set_option linter.unusedVariables false
/-! whorl/induce.Sort -/
set_option maxRecDepth 100000 in
theorem sortNo1_ct {w : World} {A_s : Option Addr} {n_s c_s : Nat} {s : List Int} {k : Int} {A_l : Option Addr} {n_l c_l : Nat} {l : List Int} (h_s : Rd w A_s n_s c_s 1 (ints .i64 s)) (h_l : Rd w A_l n_l c_l 1 (ints .i64 l)) (hno : ¬ ((0 ≤ k ∧ k ≤ 1048576) ∧ ∀ x ∈ s, 0 ≤ x ∧ x < k)) (hNl : l.length ≤ 1000000) :
    Ct Try.prog 27 #[.slice A_s n_s c_s, .int .i64 k, .slice A_l n_l c_l] w.heap.size w [] (fun v R' => v = .tuple #[.slice none 0 0, .bool false]) := by
  obtain rfl := h_s.lenI
  obtain rfl := h_l.lenI
  refine fnV Try.func27 rfl rfl ?_
  have m_s := h_s.max
  have m_l := h_l.max
  refine v_seqW ?_
  refine w_reg ?_
  refine wr_y rfl (y_assign rfl) ?_
  refine wr_y rfl (y_assign rfl) ?_
  refine wr_nil ?_
  refine v_seqW ?_
  refine w_reg ?_
  refine wr_y rfl (y_move rfl) ?_
  refine wr_y rfl (y_move rfl) ?_
  refine wr_a rfl (a_callF en38 rfl (Ct.quiet (fun w hw => countsNo_ct ((h_s.c _) w hw) hno))) ?_
  rintro _ _ ⟨rfl, rfl⟩
  refine wr_y rfl (y_move rfl) ?_
  refine wr_y rfl (y_extract rfl rfl) ?_
  refine wr_y rfl (y_extract rfl rfl) ?_
  refine wr_y rfl (y_assign rfl) ?_
  refine wr_y rfl (y_assign rfl) ?_
  refine wr_nil ?_
  refine v_seqW ?_
  refine w_reg ?_
  refine wr_y rfl (y_move rfl) ?_
  refine wr_a rfl (a_callF en46 rfl (values_ct)) ?_
  rintro _ _ ⟨g_1, rfl, rfl⟩
  refine wr_a rfl (a_callF en45 rfl (Ct.fresh (fun w hw => sorted_ct ((h_l.c _) w hw) ((rdR 0 (r := ⟨22, 1, (some ⟨g_1, 0, none⟩), 1, 1, [.slice A_l l.length c_l], false⟩) rfl) w hw) (by omega)))) ?_
  rintro _ _ ⟨_, rfl, A_3, c_4, rfl, rfl⟩
  refine wr_y rfl (y_assign rfl) ?_
  refine wr_nil ?_
  refine v_seqW ?_
  refine w_seq ?_
  refine w_reg ?_
  refine wr_y rfl (y_move rfl) ?_
  refine wr_y rfl (y_not rfl) ?_
  refine wr_y rfl (y_move rfl) ?_
  refine wr_no rfl rfl rfl rfl ?_
  refine wr_no rfl rfl rfl rfl ?_
  refine wr_no rfl rfl rfl rfl ?_
  refine wr_no rfl rfl rfl rfl ?_
  refine wr_no rfl rfl rfl rfl ?_
  refine wr_y rfl (y_pickT rfl rfl) ?_
  refine wr_nil ?_
  refine w_true rfl ?_
  refine w_seq ?_
  refine w_reg ?_
  refine wr_y rfl (y_assign rfl) ?_
  refine wr_y rfl (y_assign rfl) ?_
  refine wr_nil ?_
  refine w_retR (R1 := []) (fun _ h => h.sel [] (by decide) rfl) ?_
  refine fin2 rfl Gd.refl ⟨_, _, rfl, rfl, ?_⟩
  rfl

/-! whorl/induce.Sort -/
set_option maxRecDepth 100000 in
theorem sortNo2_ct {w : World} {A_s : Option Addr} {n_s c_s : Nat} {s : List Int} {k : Int} {A_l : Option Addr} {n_l c_l : Nat} {l : List Int} (h_s : Rd w A_s n_s c_s 1 (ints .i64 s)) (h_l : Rd w A_l n_l c_l 1 (ints .i64 l)) (hok : (0 ≤ k ∧ k ≤ 1048576) ∧ ∀ x ∈ s, 0 ≤ x ∧ x < k) (hnp : ¬ l.Perm (fstL s)) (hN : s.length ≤ 1000000) (hNl : l.length ≤ 1000000) :
    Ct Try.prog 27 #[.slice A_s n_s c_s, .int .i64 k, .slice A_l n_l c_l] w.heap.size w [] (fun v R' => v = .tuple #[.slice none 0 0, .bool false]) := by
  obtain rfl := h_s.lenI
  obtain rfl := h_l.lenI
  refine fnV Try.func27 rfl rfl ?_
  have m_s := h_s.max
  have m_l := h_l.max
  refine v_seqW ?_
  refine w_reg ?_
  refine wr_y rfl (y_assign rfl) ?_
  refine wr_y rfl (y_assign rfl) ?_
  refine wr_nil ?_
  refine v_seqW ?_
  refine w_reg ?_
  refine wr_y rfl (y_move rfl) ?_
  refine wr_y rfl (y_move rfl) ?_
  refine wr_a rfl (a_callF en38 rfl (Ct.fresh (fun w hw => countsOk_ct ((h_s.c _) w hw) (by first | assumption | omega | decide)))) ?_
  rintro _ _ ⟨_, rfl, A_1, c_2, rfl, rfl⟩
  refine wr_y rfl (y_move rfl) ?_
  refine wr_y rfl (y_extract rfl rfl) ?_
  refine wr_y rfl (y_extract rfl rfl) ?_
  refine wr_y rfl (y_assign rfl) ?_
  refine wr_y rfl (y_assign rfl) ?_
  refine wr_nil ?_
  refine v_seqW ?_
  refine w_reg ?_
  refine wr_y rfl (y_move rfl) ?_
  refine wr_a rfl (a_callF en46 rfl (values_ct)) ?_
  rintro _ _ ⟨g_3, rfl, rfl⟩
  refine wr_a rfl (a_callF en45 rfl (Ct.fresh (fun w hw => sorted_ct ((h_l.c _) w hw) ((rdR 0 (r := ⟨22, 1, (some ⟨g_3, 0, none⟩), 1, 1, [.slice A_l l.length c_l], false⟩) rfl) w hw) (by omega)))) ?_
  rintro _ _ ⟨_, rfl, A_5, c_6, rfl, rfl⟩
  refine wr_y rfl (y_assign rfl) ?_
  refine wr_nil ?_
  refine v_seqW ?_
  refine w_seq ?_
  refine w_reg ?_
  refine wr_y rfl (y_move rfl) ?_
  refine wr_y rfl (y_not rfl) ?_
  refine wr_y rfl (y_move rfl) ?_
  refine wr_yes rfl rfl ?_
  refine wr_y rfl (y_move rfl) ?_
  refine wr_yes rfl rfl ?_
  refine wr_y rfl (y_move rfl) ?_
  refine wr_yes rfl rfl ?_
  refine wr_a rfl (a_callF en48 rfl (Ct.fresh (fun w hw => first_ct ((h_s.c _) w hw) (by first | assumption | omega | decide)))) ?_
  rintro _ _ ⟨_, rfl, A_8, c_9, rfl, rfl⟩
  refine wr_yes rfl rfl ?_
  refine wr_a rfl (a_callF en47 rfl (Ct.quiet (fun w hw => equalI_ct ((rdr 1 rfl) w hw) ((rdr 0 rfl) w hw) (by rw [(sortL_perm l).length_eq]; omega)))) ?_
  rintro _ _ ⟨rfl, rfl⟩
  refine wr_setF 30 rfl (fun e => hnp (sortL_fst.1 e)) ?_
  refine wr_yes rfl rfl ?_
  refine wr_y rfl (y_not rfl) ?_
  refine wr_y rfl (y_pickF rfl rfl) ?_
  refine wr_nil ?_
  refine w_true rfl ?_
  refine w_seq ?_
  refine w_reg ?_
  refine wr_y rfl (y_assign rfl) ?_
  refine wr_y rfl (y_assign rfl) ?_
  refine wr_nil ?_
  refine w_retR (R1 := []) (fun _ h => h.sel [] (by decide) rfl) ?_
  refine fin2 rfl Gd.refl ⟨_, _, rfl, rfl, ?_⟩
  rfl

theorem rd_rep0 (m : Nat) (j : Int) : rd (List.replicate m (0 : Int)) j = 0 := by
  unfold rd
  rw [List.getD_eq_getElem?_getD, List.getElem?_replicate]
  split <;> rfl
/-! whorl/whorlref10.Starts -/
set_option maxRecDepth 100000 in
theorem starts10_ct {w : World} {A_cs : Option Addr} {n_cs c_cs : Nat} {cs : List Int} (h_cs : Rd w A_cs n_cs c_cs 1 (ints .i64 cs)) (hcs : ∀ x ∈ cs, 0 ≤ x) (hsum : cs.sum ≤ 1000000000) (hcl : cs.length ≤ 1048576) :
    Ct Try.prog 59 #[.slice A_cs n_cs c_cs] w.heap.size w [] (fun v R' => ∃ A c, v = .slice A (startsV cs).length c ∧ R' = [⟨3, 1, A, (startsV cs).length, c, ints .i64 (startsV cs), false⟩]) := by
  obtain rfl := h_cs.lenI
  refine fn1 Try.func59 rfl rfl rfl ?_
  have m_cs := h_cs.max
  refine w_seq ?_
  refine w_reg ?_
  refine wr_y rfl (y_assign rfl) ?_
  refine wr_nil ?_
  refine w_seq ?_
  refine w_reg ?_
  refine wr_y rfl (y_move rfl) ?_
  refine wr_y rfl (y_len Try.underlying22 rfl) ?_
  refine wr_a rfl (a_makeN Try.underlying22 zb3 rfl rfl (by omega) (by omega) (by omega)) ?_
  rintro _ _ ⟨g_1, rfl, rfl⟩
  refine wr_rows (R1 := [⟨3, 1, (some ⟨g_1, 0, none⟩), cs.length, cs.length, ints .i64 (List.replicate cs.length (0 : Int)), false⟩]) rfl ?_
  refine wr_as (v := .slice (some ⟨g_1, 0, none⟩) cs.length cs.length) rfl ?_
  refine wr_y rfl (y_assign rfl) ?_
  refine wr_nil ?_
  refine w_seq ?_
  refine w_seq ?_
  refine w_reg ?_
  refine wr_y rfl (y_assign rfl) ?_
  refine wr_nil ?_
  refine w_block ?_
  refine w_loop2 (fun (i : Int) (V : List Int) => [(0, .slice A_cs cs.length c_cs), (3, .slice (some ⟨g_1, 0, none⟩) cs.length cs.length), (4, .int .i64 i)]) (fun (i : Int) (V : List Int) => [⟨3, 1, (some ⟨g_1, 0, none⟩), cs.length, cs.length, ints .i64 V, false⟩]) (fun (i : Int) (V : List Int) => (1 ≤ i) ∧ (i ≤ cs.length ∨ i = 1) ∧ (V.length = cs.length) ∧ (∀ j : Int, 0 ≤ j → j < i → rd V j = ps cs j)) (fun (i : Int) (V : List Int) => (cs.length - i).toNat) ?_ ?_
  ·
    exact ⟨1, List.replicate cs.length (0 : Int), ⟨(by omega), (by omega), (by rw [List.length_replicate]), (fun j h1 h2 => by obtain rfl : j = 0 := (by omega); rw [rd_rep0]; rfl)⟩, (Sub.cons rfl (Sub.cons rfl (Sub.cons rfl Sub.nil))), fun _ h => h⟩
  intro i V ⟨hi0, hi1, hl, hV⟩
  refine w_seq ?_
  refine w_seq ?_
  refine w_reg ?_
  refine wr_y rfl (y_move rfl) ?_
  refine wr_y rfl (y_move rfl) ?_
  refine wr_y rfl (y_len Try.underlying22 rfl) ?_
  refine wr_y rfl (y_lt rfl rfl) ?_
  refine wr_nil ?_
  refine w_if rfl (fun hc1 => ?_) (fun hc1 => ?_)
  ·
    have hv1 := hV (i - 1) (by omega) (by omega)
    have hps := ps_succ (L := cs) (k := i - 1) (by omega) (by omega)
    rw [show i - 1 + 1 = i by omega] at hps
    have hb1 := ps_bound hcs i
    have hb2 := ps_bound hcs (i - 1)
    refine w_skip ?_
    refine w_seq ?_
    refine w_block ?_
    refine w_regd mixed ?_
    refine wd_y 0 rfl (by kernel_rfl) rfl (y_move rfl) ?_
    refine wd_y 1 rfl (by kernel_rfl) rfl (y_move rfl) ?_
    refine wd_y 2 rfl (by kernel_rfl) rfl (y_move rfl) ?_
    refine wd_y 3 rfl (by kernel_rfl) rfl (y_move rfl) ?_
    refine wd_y 4 rfl (by kernel_rfl) rfl (y_subI rfl rfl (by omega)) ?_
    refine wd_y 5 rfl (by kernel_rfl) rfl (y_index1 Try.underlying22 sz3 rfl rfl (rdr 0 rfl) (by omega) (by omega)) ?_
    refine wd_y 6 rfl (by kernel_rfl) rfl (y_ldI Try.underlying3 rfl rfl (rdr 0 rfl) (by omega) (by omega)) ?_
    refine wd_y 7 rfl (by kernel_rfl) rfl (y_move rfl) ?_
    refine wd_y 8 rfl (by kernel_rfl) rfl (y_move rfl) ?_
    refine wd_y 9 rfl (by kernel_rfl) rfl (y_subI rfl rfl (by omega)) ?_
    refine wd_y 10 rfl (by kernel_rfl) rfl (y_index1 Try.underlying22 sz3 rfl rfl (h_cs.c _) (by omega) (by omega)) ?_
    refine wd_y 11 rfl (by kernel_rfl) rfl (y_ldI Try.underlying3 rfl rfl (h_cs.c _) (by omega) (by omega)) ?_
    refine wd_y 12 rfl (by kernel_rfl) rfl (y_addI rfl rfl (by omega)) ?_
    refine wd_y 13 rfl (by kernel_rfl) rfl (y_index1 Try.underlying22 sz3 rfl rfl (rdr 0 rfl) (by omega) (by omega)) ?_
    refine wd_n 14 rfl (by kernel_rfl) (a_storeI 0 rfl sz3 rfl rfl (by omega) (by omega)) ?_
    rintro _ _ rfl
    refine ⟨.inl (by kernel_rfl), ?_⟩
    refine wd_rows (R1 := [⟨3, 1, (some ⟨g_1, 0, none⟩), cs.length, cs.length, ints .i64 (upd V i ((rd V (i - 1)) + (rd cs (i - 1)))), false⟩]) rfl ?_
    refine wd_nil (by kernel_rfl) ?_
    refine w_reg ?_
    refine wr_y rfl (y_move rfl) ?_
    refine wr_y rfl (y_addI rfl rfl (by omega)) ?_
    refine wr_y rfl (y_assign rfl) ?_
    refine wr_nil ?_
    exact ⟨i + 1, upd V i ((rd V (i - 1)) + (rd cs (i - 1))), ⟨(by omega), (by omega), (by rw [upd_length]; exact hl), (fill_step (f := fun j => ps cs j) (by omega) (by omega) hV (by rw [hps, hv1]))⟩, (by omega), (Sub.cons rfl (Sub.cons rfl (Sub.cons rfl Sub.nil))), fun _ h => h⟩
  ·
    refine w_exit ?_
    refine w_seq ?_
    refine w_reg ?_
    refine wr_y rfl (y_move rfl) ?_
    refine wr_y rfl (y_assign rfl) ?_
    refine wr_nil ?_
    refine w_retR (R1 := [⟨3, 1, (some ⟨g_1, 0, none⟩), cs.length, cs.length, ints .i64 V, false⟩]) (fun _ h => h.sel [0] (by decide) rfl) ?_
    refine ⟨_, rfl, ?_⟩
    obtain rfl : V = startsV cs := list_ext_rd (hl.trans (startsV_len cs).symm) fun j h1 h2 => by rw [rd_startsV h1 (by omega)]; exact hV j h1 (by omega)
    rw [startsV_len]
    exact ⟨_, _, rfl, rfl⟩

/-! whorl/whorlref12.ends -/
set_option maxRecDepth 100000 in
theorem ends12_ct {w : World} {A_cs : Option Addr} {n_cs c_cs : Nat} {cs : List Int} (h_cs : Rd w A_cs n_cs c_cs 1 (ints .i64 cs)) (hcs : ∀ x ∈ cs, 0 ≤ x) (hsum : cs.sum ≤ 1000000000) (hcl : cs.length ≤ 1048576) :
    Ct Try.prog 58 #[.slice A_cs n_cs c_cs] w.heap.size w [] (fun v R' => ∃ A c, v = .slice A (endsV cs).length c ∧ R' = [⟨3, 1, A, (endsV cs).length, c, ints .i64 (endsV cs), false⟩]) := by
  obtain rfl := h_cs.lenI
  refine fn1 Try.func58 rfl rfl rfl ?_
  have m_cs := h_cs.max
  have hSl : (startsV cs).length = cs.length := startsV_len cs
  refine w_seq ?_
  refine w_reg ?_
  refine wr_y rfl (y_assign rfl) ?_
  refine wr_nil ?_
  refine w_seq ?_
  refine w_reg ?_
  refine wr_y rfl (y_move rfl) ?_
  refine wr_a rfl (a_callF en59 rfl (Ct.fresh (fun w hw => starts10_ct ((h_cs.c _) w hw) (by first | assumption | omega | decide) (by first | assumption | omega | decide) (by first | assumption | omega | decide)))) ?_
  rintro _ _ ⟨_, rfl, A_1, c_2, rfl, rfl⟩
  refine wr_y rfl (y_assign rfl) ?_
  refine wr_nil ?_
  refine w_seq ?_
  refine w_seq ?_
  refine w_reg ?_
  refine wr_y rfl (y_assign rfl) ?_
  refine wr_nil ?_
  refine w_block ?_
  refine w_loop2 (fun (i : Int) (V : List Int) => [(0, .slice A_cs cs.length c_cs), (3, .slice A_1 ((startsV cs).length) c_2), (4, .int .i64 i)]) (fun (i : Int) (V : List Int) => [⟨3, 1, A_1, (startsV cs).length, c_2, ints .i64 V, false⟩]) (fun (i : Int) (V : List Int) => (0 ≤ i) ∧ (i ≤ (cs).length) ∧ (V.length = (cs).length) ∧ (∀ j : Int, 0 ≤ j → j < (cs).length → rd V j = if j < i then ps (cs) (j + 1) else ps (cs) j)) (fun (i : Int) (V : List Int) => ((cs).length - i).toNat) ?_ ?_
  ·
    exact ⟨0, startsV cs, ⟨(by omega), (by omega), (by rw [startsV_len]), (fun j h1 h2 => by rw [if_neg (by omega)]; exact rd_startsV h1 h2)⟩, (Sub.cons rfl (Sub.cons rfl (Sub.cons rfl Sub.nil))), fun _ h => h⟩
  intro i V ⟨hi0, hi1, hVl, hV⟩
  refine w_seq ?_
  refine w_seq ?_
  refine w_reg ?_
  refine wr_y rfl (y_move rfl) ?_
  refine wr_y rfl (y_move rfl) ?_
  refine wr_y rfl (y_len Try.underlying22 rfl) ?_
  refine wr_y rfl (y_lt rfl rfl) ?_
  refine wr_nil ?_
  refine w_if rfl (fun hc1 => ?_) (fun hc1 => ?_)
  ·
    have hb1 := ps_bound hcs i
    have hb2 := ps_bound hcs (i + 1)
    have hvi := hV i hi0 (by omega)
    rw [if_neg (by omega)] at hvi
    have hps := ps_succ (L := cs) hi0 (by omega)
    refine w_skip ?_
    refine w_seq ?_
    refine w_block ?_
    refine w_regd mixed ?_
    refine wd_y 0 rfl (by kernel_rfl) rfl (y_move rfl) ?_
    refine wd_y 1 rfl (by kernel_rfl) rfl (y_move rfl) ?_
    refine wd_y 2 rfl (by kernel_rfl) rfl (y_move rfl) ?_
    refine wd_y 3 rfl (by kernel_rfl) rfl (y_move rfl) ?_
    refine wd_y 4 rfl (by kernel_rfl) rfl (y_index1 Try.underlying22 sz3 rfl rfl (rdr 0 rfl) (by omega) (by omega)) ?_
    refine wd_y 5 rfl (by kernel_rfl) rfl (y_ldI Try.underlying3 rfl rfl (rdr 0 rfl) (by omega) (by omega)) ?_
    refine wd_y 6 rfl (by kernel_rfl) rfl (y_move rfl) ?_
    refine wd_y 7 rfl (by kernel_rfl) rfl (y_move rfl) ?_
    refine wd_y 8 rfl (by kernel_rfl) rfl (y_index1 Try.underlying22 sz3 rfl rfl (h_cs.c _) (by omega) (by omega)) ?_
    refine wd_y 9 rfl (by kernel_rfl) rfl (y_ldI Try.underlying3 rfl rfl (h_cs.c _) (by omega) (by omega)) ?_
    refine wd_y 10 rfl (by kernel_rfl) rfl (y_addI rfl rfl (by omega)) ?_
    refine wd_y 11 rfl (by kernel_rfl) rfl (y_index1 Try.underlying22 sz3 rfl rfl (rdr 0 rfl) (by omega) (by omega)) ?_
    refine wd_n 12 rfl (by kernel_rfl) (a_storeI 0 rfl sz3 rfl rfl (by omega) (by omega)) ?_
    rintro _ _ rfl
    refine ⟨.inl (by kernel_rfl), ?_⟩
    refine wd_rows (R1 := [⟨3, 1, A_1, (startsV cs).length, c_2, ints .i64 (upd V i ((rd V i) + (rd cs i))), false⟩]) rfl ?_
    refine wd_nil (by kernel_rfl) ?_
    refine w_reg ?_
    refine wr_y rfl (y_move rfl) ?_
    refine wr_y rfl (y_addI rfl rfl (by omega)) ?_
    refine wr_y rfl (y_assign rfl) ?_
    refine wr_nil ?_
    exact ⟨i + 1, upd V i ((rd V i) + (rd cs i)), ⟨(by omega), (by omega), (by rw [upd_length]; exact hVl), (ends_step hi0 (by omega) hVl hV)⟩, (by omega), (Sub.cons rfl (Sub.cons rfl (Sub.cons rfl Sub.nil))), fun _ h => h⟩
  ·
    refine w_exit ?_
    refine w_seq ?_
    refine w_reg ?_
    refine wr_y rfl (y_move rfl) ?_
    refine wr_y rfl (y_assign rfl) ?_
    refine wr_nil ?_
    refine w_retR (R1 := [⟨3, 1, A_1, (startsV cs).length, c_2, ints .i64 V, false⟩]) (fun _ h => h.sel [0] (by decide) rfl) ?_
    refine ⟨_, rfl, ?_⟩
    obtain rfl : V = endsV cs := ends_done hVl fun j h1 h2 => by rw [hV j h1 h2, if_pos (by omega), if_pos (by omega)]
    rw [endsV_len, startsV_len]
    exact ⟨_, _, rfl, rfl⟩

theorem insN_all {l U : List Int} {i j : Int} (hi0 : 0 ≤ i) (hi : i < l.length) (hp : U.Perm (l.take i.toNat)) (hs : U.Pairwise (· ≤ ·)) (hj0 : 0 ≤ j) (hj : j ≤ U.length) (hgt : ∀ q : Int, j ≤ q → q < U.length → rd l i ≤ rd U q) (h : ¬ (0 < j ∧ rd l i < rd U (j - 1))) :
    ((U.take j.toNat ++ [rd l i]) ++ U.drop j.toNat).Perm (l.take (i + 1).toNat) ∧ ((U.take j.toNat ++ [rd l i]) ++ U.drop j.toNat).Pairwise (· ≤ ·) := by
  refine ⟨?_, insI_sorted (r := (· ≤ ·)) (fun x y z h1 h2 => Int.le_trans h1 h2) hs hj0 hj hgt (fun h0 => by omega)⟩
  rw [take_rd hi0 hi]
  have e : U.Perm (U.take j.toNat ++ U.drop j.toNat) := by rw [List.take_append_drop]
  refine List.Perm.trans ?_ (hp.append_right _)
  refine List.Perm.trans ?_ ((e.append_right [rd l i]).symm)
  rw [List.append_assoc, List.append_assoc]
  exact (List.perm_append_comm).append_left _
theorem insN_eq {l U : List Int} (hp : U.Perm l) (hs : U.Pairwise (· ≤ ·)) : U = sortL l := (hp.trans (sortL_perm l).symm).eq_of_pairwise (fun a b _ _ h1 h2 => Int.le_antisymm h1 h2) hs (sortL_sorted l)
/-! whorl/whorlref12.may -/
set_option maxRecDepth 100000 in
set_option maxHeartbeats 800000 in
theorem may12_ct {w : World} {A_s : Option Addr} {n_s c_s : Nat} {s : List Int} {A_l : Option Addr} {n_l c_l : Nat} {l : List Int} (h_s : Rd w A_s n_s c_s 1 (ints .i64 s)) (h_l : Rd w A_l n_l c_l 1 (ints .i64 l)) (hN : s.length ≤ 1000000) (hNl : l.length ≤ 1000000) :
    Ct Try.prog 56 #[.slice A_s n_s c_s, .slice A_l n_l c_l] w.heap.size w [] (fun v R' => v = .bool (decide (l.Perm (fstL s)))) := by
  obtain rfl := h_s.lenI
  obtain rfl := h_l.lenI
  refine fn1 Try.func56 rfl rfl rfl ?_
  have m_s := h_s.max
  have m_l := h_l.max
  refine w_seq ?_
  refine w_reg ?_
  refine wr_y rfl (y_assign rfl) ?_
  refine wr_nil ?_
  refine w_seq ?_
  refine w_reg ?_
  refine wr_y rfl (y_move rfl) ?_
  refine wr_a rfl (a_callF en32 rfl (Ct.fresh (fun w hw => first11_ct ((h_s.c _) w hw) (by first | assumption | omega | decide)))) ?_
  rintro _ _ ⟨_, rfl, A_1, c_2, rfl, rfl⟩
  refine wr_y rfl (y_assign rfl) ?_
  refine wr_nil ?_
  refine w_seq ?_
  refine w_reg ?_
  refine wr_sub (R1 := [⟨3, 1, none, 0, 0, ints .i64 ([]), false⟩, ⟨3, 1, A_1, (fstL s).length, c_2, ints .i64 (fstL s), false⟩]) (Sub.refl _) (fun _ h => h.nil 3 1) ?_
  refine wr_y rfl (y_assign rfl) ?_
  refine wr_nil ?_
  refine w_seq ?_
  refine w_seq ?_
  refine w_reg ?_
  refine wr_y rfl (y_assign rfl) ?_
  refine wr_nil ?_
  refine w_block ?_
  refine w_loop5 (fun (i : Int) (A1 : Option Addr) (n1 : Nat) (c1 : Nat) (U : List Int) => [(1, .slice A_l l.length c_l), (5, .slice A_1 ((fstL s).length) c_2), (6, .slice A1 n1 c1), (7, .int .i64 i)]) (fun (i : Int) (A1 : Option Addr) (n1 : Nat) (c1 : Nat) (U : List Int) => [⟨3, 1, A1, n1, c1, ints .i64 U, false⟩, ⟨3, 1, A_1, (fstL s).length, c_2, ints .i64 (fstL s), false⟩]) (fun (i : Int) (A1 : Option Addr) (n1 : Nat) (c1 : Nat) (U : List Int) => (0 ≤ i) ∧ (i ≤ l.length) ∧ (n1 = U.length) ∧ (U.Perm (l.take i.toNat)) ∧ (U.Pairwise (· ≤ ·))) (fun (i : Int) (A1 : Option Addr) (n1 : Nat) (c1 : Nat) (U : List Int) => (l.length - i).toNat) ?_ ?_
  ·
    exact ⟨0, none, 0, 0, [], ⟨(by omega), (by omega), (rfl), (.refl _), (.nil)⟩, (Sub.cons rfl (Sub.cons rfl (Sub.cons rfl (Sub.cons rfl Sub.nil)))), fun _ h => h⟩
  intro i A1 n1 c1 U ⟨hi0, hi1, hn1, hp, hs⟩
  have hUl : U.length = i.toNat := by rw [hp.length_eq, List.length_take]; omega
  refine w_seq ?_
  refine w_seq ?_
  refine w_reg ?_
  refine wr_y rfl (y_move rfl) ?_
  refine wr_y rfl (y_move rfl) ?_
  refine wr_y rfl (y_len Try.underlying22 rfl) ?_
  refine wr_y rfl (y_lt rfl rfl) ?_
  refine wr_nil ?_
  refine w_if rfl (fun hc1 => ?_) (fun hc1 => ?_)
  ·
    refine w_skip ?_
    refine w_seq ?_
    refine w_block ?_
    refine w_seq ?_
    refine w_reg ?_
    refine wr_y rfl (y_move rfl) ?_
    refine wr_y rfl (y_len Try.underlying22 rfl) ?_
    refine wr_y rfl (y_assign rfl) ?_
    refine wr_nil ?_
    refine w_seq ?_
    refine w_block ?_
    refine w_loop1 (fun (j : Int) => [(1, .slice A_l l.length c_l), (5, .slice A_1 ((fstL s).length) c_2), (6, .slice A1 n1 c1), (7, .int .i64 i), (8, .int .i64 j)]) (fun (j : Int) => [⟨3, 1, A1, n1, c1, ints .i64 U, false⟩, ⟨3, 1, A_1, (fstL s).length, c_2, ints .i64 (fstL s), false⟩]) (fun (j : Int) => (0 ≤ j) ∧ (j ≤ U.length) ∧ (∀ q : Int, j ≤ q → q < U.length → rd l i ≤ rd U q)) (fun (j : Int) => j.toNat) ?_ ?_
    ·
      exact ⟨((n1 : Nat) : Int), ⟨(by omega), (by omega), (fun q h1 h2 => by omega)⟩, (Sub.cons rfl (Sub.cons rfl (Sub.cons rfl (Sub.cons rfl (Sub.cons rfl Sub.nil))))), fun _ h => h⟩
    intro j ⟨hj0, hj1, hgt⟩
    refine w_seq ?_
    refine w_join0 [(1, .slice A_l l.length c_l), (5, .slice A_1 ((fstL s).length) c_2), (6, .slice A1 n1 c1), (7, .int .i64 i), (8, .int .i64 j), (32, .bool (decide ((0 < j) ∧ ((rd l i) < (rd U (j - 1))))))] [⟨3, 1, A1, n1, c1, ints .i64 U, false⟩, ⟨3, 1, A_1, (fstL s).length, c_2, ints .i64 (fstL s), false⟩] ?_ ?_
    ·
      refine w_regd mixed ?_
      refine wd_y 0 rfl (by kernel_rfl) rfl (y_move rfl) ?_
      refine wd_y 1 rfl (by kernel_rfl) rfl (y_gt rfl rfl) ?_
      refine wd_y 2 rfl (by kernel_rfl) rfl (y_move rfl) ?_
      refine wd_case 21 rfl (fun hc2 => ?_) (fun hc2 => ?_)
      ·
        refine wd_yg 3 rfl (by kernel_rfl) rfl rfl rfl (y_move rfl) ?_
        refine wd_yg 4 rfl (by kernel_rfl) rfl rfl rfl (y_move rfl) ?_
        refine wd_yg 5 rfl (by kernel_rfl) rfl rfl rfl (y_index1 Try.underlying22 sz3 rfl rfl (h_l.c _) (by omega) (by omega)) ?_
        refine wd_yg 6 rfl (by kernel_rfl) rfl rfl rfl (y_ldI Try.underlying3 rfl rfl (h_l.c _) (by omega) (by omega)) ?_
        refine wd_yg 7 rfl (by kernel_rfl) rfl rfl rfl (y_move rfl) ?_
        refine wd_yg 8 rfl (by kernel_rfl) rfl rfl rfl (y_move rfl) ?_
        refine wd_yg 9 rfl (by kernel_rfl) rfl rfl rfl (y_subI rfl rfl (by omega)) ?_
        refine wd_yg 10 rfl (by kernel_rfl) rfl rfl rfl (y_index1 Try.underlying22 sz3 rfl rfl (rdr 0 rfl) (by omega) (by omega)) ?_
        refine wd_yg 11 rfl (by kernel_rfl) rfl rfl rfl (y_ldI Try.underlying3 rfl rfl (rdr 0 rfl) (by omega) (by omega)) ?_
        refine wd_yg 12 rfl (by kernel_rfl) rfl rfl rfl (y_lt rfl rfl) ?_
        refine wd_y 13 rfl (by kernel_rfl) rfl (y_pickT rfl rfl) ?_
        refine wd_nil (by kernel_rfl) ?_
        exact ⟨(Sub.cons rfl (Sub.cons rfl (Sub.cons rfl (Sub.cons rfl (Sub.cons rfl (Sub.to rfl (mb (by first | omega | exact ⟨fun h => ⟨(by assumption), h⟩, fun h => h.2⟩ | simp [*])) Sub.nil)))))), fun _ h => h⟩
      ·
        refine wd_no 3 rfl (by kernel_rfl) rfl rfl rfl rfl ?_
        refine wd_no 4 rfl (by kernel_rfl) rfl rfl rfl rfl ?_
        refine wd_no 5 rfl (by kernel_rfl) rfl rfl rfl rfl ?_
        refine wd_no 6 rfl (by kernel_rfl) rfl rfl rfl rfl ?_
        refine wd_no 7 rfl (by kernel_rfl) rfl rfl rfl rfl ?_
        refine wd_no 8 rfl (by kernel_rfl) rfl rfl rfl rfl ?_
        refine wd_no 9 rfl (by kernel_rfl) rfl rfl rfl rfl ?_
        refine wd_no 10 rfl (by kernel_rfl) rfl rfl rfl rfl ?_
        refine wd_no 11 rfl (by kernel_rfl) rfl rfl rfl rfl ?_
        refine wd_no 12 rfl (by kernel_rfl) rfl rfl rfl rfl ?_
        refine wd_y 13 rfl (by kernel_rfl) rfl (y_pickF rfl rfl) ?_
        refine wd_nil (by kernel_rfl) ?_
        exact ⟨(Sub.cons rfl (Sub.cons rfl (Sub.cons rfl (Sub.cons rfl (Sub.cons rfl (Sub.to rfl (mb_f (by first | omega | exact ⟨fun h => ⟨(by assumption), h⟩, fun h => h.2⟩ | simp [*])) Sub.nil)))))), fun _ h => h⟩
    refine w_if rfl (fun hc3 => ?_) (fun hc3 => ?_)
    ·
      refine w_skip ?_
      refine w_block ?_
      refine w_reg ?_
      refine wr_y rfl (y_move rfl) ?_
      refine wr_y rfl (y_subI rfl rfl (by omega)) ?_
      refine wr_y rfl (y_assign rfl) ?_
      refine wr_nil ?_
      exact ⟨j - 1, ⟨(by omega), (by omega), (fun q h1 h2 => by
          by_cases e : q = j - 1
          · rw [e]; omega
          · exact hgt q (by omega) h2)⟩, (by omega), (Sub.cons rfl (Sub.cons rfl (Sub.cons rfl (Sub.cons rfl (Sub.cons rfl Sub.nil))))), fun _ h => h⟩
    ·
      have hins := insN_all (l := l) hi0 (by omega) hp hs hj0 hj1 hgt hc3
      refine w_exit ?_
      refine w_regd mixed ?_
      refine wd_c ?_
      refine cd_y 1 rfl (by kernel_rfl) rfl (y_move rfl) ?_
      refine cd_y 2 rfl (by kernel_rfl) rfl (y_move rfl) ?_
      refine cd_y 3 rfl (by kernel_rfl) rfl (y_sliceTo Try.underlying22 sz3 rfl rfl (rdr 0 rfl) (by omega) (by omega)) ?_
      refine cd_y 5 rfl (by kernel_rfl) rfl (y_move rfl) ?_
      refine cd_y 6 rfl (by kernel_rfl) rfl (y_move rfl) ?_
      refine cd_y 7 rfl (by kernel_rfl) rfl (y_index1 Try.underlying22 sz3 rfl rfl (h_l.c _) (by omega) (by omega)) ?_
      refine cd_y 8 rfl (by kernel_rfl) rfl (y_ldI Try.underlying3 rfl rfl (h_l.c _) (by omega) (by omega)) ?_
      refine cd_y 11 rfl (by kernel_rfl) rfl (y_move rfl) ?_
      refine cd_y 12 rfl (by kernel_rfl) rfl (y_move rfl) ?_
      refine cd_y 13 rfl (by kernel_rfl) rfl (y_sliceFrom Try.underlying22 sz3 rfl rfl (by omega) (by omega)) ?_
      refine cd_two 0 9 (by kernel_rfl) ?_ ?_
      ·
        refine c1_a 0 rfl rfl (a_litI .i64 [] Try.underlying22 zs3 rfl rfl rfl) ?_
        rintro _ _ ⟨g_5, rfl, rfl⟩
        refine ⟨fun _ h => h.sel [1, 2] (by decide) rfl, ?_⟩
        refine cd_two 4 9 (by kernel_rfl) ?_ ?_
        ·
          refine c1_a 4 rfl rfl (a_appendI 0 rfl Try.underlying22 zb3 rfl rfl rfl (RdC.toI (rdr 1 rfl) (by omega)) (by omega)) ?_
          rintro _ _ ⟨A_6, c_7, rfl, rfl⟩
          refine ⟨fun _ h => h.sel [1, 2] (by decide) rfl, ?_⟩
          refine cd_rows (R1 := [⟨3, 1, A_6, (0 + ((j).toNat)), c_7, ints .i64 (([]) ++ ((U).take (j).toNat)), false⟩, ⟨3, 1, A1, n1, c1, ints .i64 U, false⟩, ⟨3, 1, A_1, (fstL s).length, c_2, ints .i64 (fstL s), false⟩]) rfl ?_
          refine cd_as (v := .slice A_6 (0 + ((j).toNat)) c_7) rfl ?_
          refine cd_one 9 (by kernel_rfl) ?_
          refine c1_a 9 rfl rfl (a_litI .i64 [rd l i] Try.underlying22 zs3 rfl rfl rfl) ?_
          rintro _ _ ⟨g_9, rfl, rfl⟩
          refine ⟨fun _ h => h.sel [2, 3] (by decide) rfl, ?_⟩
          refine cd_one 10 (by kernel_rfl) ?_
          refine c1_a 10 rfl rfl (a_appendI 1 rfl Try.underlying22 zb3 rfl rfl rfl (rdr 0 rfl) (by omega)) ?_
          rintro _ _ ⟨A_10, c_11, rfl, rfl⟩
          refine ⟨fun _ h => h.sel [2, 3] (by decide) rfl, ?_⟩
          refine cd_rows (R1 := [⟨3, 1, (some ⟨g_9, 0, none⟩), 1, 1, ints .i64 ([rd l i]), false⟩, ⟨3, 1, A_10, ((0 + ((j).toNat)) + 1), c_11, ints .i64 ((([]) ++ ((U).take (j).toNat)) ++ ([rd l i])), false⟩, ⟨3, 1, A1, n1, c1, ints .i64 U, false⟩, ⟨3, 1, A_1, (fstL s).length, c_2, ints .i64 (fstL s), false⟩]) rfl ?_
          refine cd_as (v := .slice A_10 ((0 + ((j).toNat)) + 1) c_11) rfl ?_
          refine cd_one 14 (by kernel_rfl) ?_
          refine c1_a 14 rfl rfl (a_appendI 1 rfl Try.underlying22 zb3 rfl rfl rfl (RdC.fromI (rdr 2 rfl) (by omega)) (by omega)) ?_
          rintro _ _ ⟨A_12, c_13, rfl, rfl⟩
          refine ⟨fun _ h => h.sel [2, 3] (by decide) rfl, ?_⟩
          refine cd_rows (R1 := [⟨3, 1, (some ⟨g_9, 0, none⟩), 1, 1, ints .i64 ([rd l i]), false⟩, ⟨3, 1, A_12, (((0 + ((j).toNat)) + 1) + (n1 - (j).toNat)), c_13, ints .i64 (((([]) ++ ((U).take (j).toNat)) ++ ([rd l i])) ++ ((U).drop (j).toNat)), false⟩, ⟨3, 1, A1, n1, c1, ints .i64 U, false⟩, ⟨3, 1, A_1, (fstL s).length, c_2, ints .i64 (fstL s), false⟩]) rfl ?_
          refine cd_as (v := .slice A_12 (((0 + ((j).toNat)) + 1) + (n1 - (j).toNat)) c_13) rfl ?_
          refine cd_y 15 rfl (by kernel_rfl) rfl (y_assign rfl) ?_
          refine cd_nil (by kernel_rfl) ?_
          refine w_reg ?_
          refine wr_y rfl (y_move rfl) ?_
          refine wr_y rfl (y_addI rfl rfl (by omega)) ?_
          refine wr_y rfl (y_assign rfl) ?_
          refine wr_nil ?_
          exact ⟨i + 1, A_12, ((0 + ((j).toNat)) + 1) + (n1 - (j).toNat), c_13, ((([]) ++ ((U).take (j).toNat)) ++ ([rd l i])) ++ ((U).drop (j).toNat), ⟨(by omega), (by omega), (by simp only [List.length_append, List.length_take, List.length_drop, List.length_cons, List.length_nil]; omega), (hins.1), (hins.2)⟩, (by omega), (Sub.cons rfl (Sub.cons rfl (Sub.cons rfl (Sub.cons rfl Sub.nil)))), fun _ h => h.sel [1, 3] (by decide) rfl⟩
        ·
          refine c1_a 9 rfl rfl (a_litI .i64 [rd l i] Try.underlying22 zs3 rfl rfl rfl) ?_
          rintro _ _ ⟨g_16, rfl, rfl⟩
          refine ⟨fun _ h => h.sel [2, 3] (by decide) rfl, ?_⟩
          refine cd_one 4 (by kernel_rfl) ?_
          refine c1_a 4 rfl rfl (a_appendI 1 rfl Try.underlying22 zb3 rfl rfl rfl (RdC.toI (rdr 2 rfl) (by omega)) (by omega)) ?_
          rintro _ _ ⟨A_17, c_18, rfl, rfl⟩
          refine ⟨fun _ h => h.sel [2, 3] (by decide) rfl, ?_⟩
          refine cd_rows (R1 := [⟨3, 1, (some ⟨g_16, 0, none⟩), 1, 1, ints .i64 ([rd l i]), false⟩, ⟨3, 1, A_17, (0 + ((j).toNat)), c_18, ints .i64 (([]) ++ ((U).take (j).toNat)), false⟩, ⟨3, 1, A1, n1, c1, ints .i64 U, false⟩, ⟨3, 1, A_1, (fstL s).length, c_2, ints .i64 (fstL s), false⟩]) rfl ?_
          refine cd_as (v := .slice A_17 (0 + ((j).toNat)) c_18) rfl ?_
          refine cd_one 10 (by kernel_rfl) ?_
          refine c1_a 10 rfl rfl (a_appendI 1 rfl Try.underlying22 zb3 rfl rfl rfl (rdr 0 rfl) (by omega)) ?_
          rintro _ _ ⟨A_19, c_20, rfl, rfl⟩
          refine ⟨fun _ h => h.sel [2, 3] (by decide) rfl, ?_⟩
          refine cd_rows (R1 := [⟨3, 1, (some ⟨g_16, 0, none⟩), 1, 1, ints .i64 ([rd l i]), false⟩, ⟨3, 1, A_19, ((0 + ((j).toNat)) + 1), c_20, ints .i64 ((([]) ++ ((U).take (j).toNat)) ++ ([rd l i])), false⟩, ⟨3, 1, A1, n1, c1, ints .i64 U, false⟩, ⟨3, 1, A_1, (fstL s).length, c_2, ints .i64 (fstL s), false⟩]) rfl ?_
          refine cd_as (v := .slice A_19 ((0 + ((j).toNat)) + 1) c_20) rfl ?_
          refine cd_one 14 (by kernel_rfl) ?_
          refine c1_a 14 rfl rfl (a_appendI 1 rfl Try.underlying22 zb3 rfl rfl rfl (RdC.fromI (rdr 2 rfl) (by omega)) (by omega)) ?_
          rintro _ _ ⟨A_21, c_22, rfl, rfl⟩
          refine ⟨fun _ h => h.sel [2, 3] (by decide) rfl, ?_⟩
          refine cd_rows (R1 := [⟨3, 1, (some ⟨g_16, 0, none⟩), 1, 1, ints .i64 ([rd l i]), false⟩, ⟨3, 1, A_21, (((0 + ((j).toNat)) + 1) + (n1 - (j).toNat)), c_22, ints .i64 (((([]) ++ ((U).take (j).toNat)) ++ ([rd l i])) ++ ((U).drop (j).toNat)), false⟩, ⟨3, 1, A1, n1, c1, ints .i64 U, false⟩, ⟨3, 1, A_1, (fstL s).length, c_2, ints .i64 (fstL s), false⟩]) rfl ?_
          refine cd_as (v := .slice A_21 (((0 + ((j).toNat)) + 1) + (n1 - (j).toNat)) c_22) rfl ?_
          refine cd_y 15 rfl (by kernel_rfl) rfl (y_assign rfl) ?_
          refine cd_nil (by kernel_rfl) ?_
          refine w_reg ?_
          refine wr_y rfl (y_move rfl) ?_
          refine wr_y rfl (y_addI rfl rfl (by omega)) ?_
          refine wr_y rfl (y_assign rfl) ?_
          refine wr_nil ?_
          exact ⟨i + 1, A_21, ((0 + ((j).toNat)) + 1) + (n1 - (j).toNat), c_22, ((([]) ++ ((U).take (j).toNat)) ++ ([rd l i])) ++ ((U).drop (j).toNat), ⟨(by omega), (by omega), (by simp only [List.length_append, List.length_take, List.length_drop, List.length_cons, List.length_nil]; omega), (hins.1), (hins.2)⟩, (by omega), (Sub.cons rfl (Sub.cons rfl (Sub.cons rfl (Sub.cons rfl Sub.nil)))), fun _ h => h.sel [1, 3] (by decide) rfl⟩
      ·
        refine c1_a 9 rfl rfl (a_litI .i64 [rd l i] Try.underlying22 zs3 rfl rfl rfl) ?_
        rintro _ _ ⟨g_25, rfl, rfl⟩
        refine ⟨fun _ h => h.sel [1, 2] (by decide) rfl, ?_⟩
        refine cd_one 0 (by kernel_rfl) ?_
        refine c1_a 0 rfl rfl (a_litI .i64 [] Try.underlying22 zs3 rfl rfl rfl) ?_
        rintro _ _ ⟨g_27, rfl, rfl⟩
        refine ⟨fun _ h => h.sel [2, 3] (by decide) rfl, ?_⟩
        refine cd_one 4 (by kernel_rfl) ?_
        refine c1_a 4 rfl rfl (a_appendI 0 rfl Try.underlying22 zb3 rfl rfl rfl (RdC.toI (rdr 2 rfl) (by omega)) (by omega)) ?_
        rintro _ _ ⟨A_28, c_29, rfl, rfl⟩
        refine ⟨fun _ h => h.sel [2, 3] (by decide) rfl, ?_⟩
        refine cd_rows (R1 := [⟨3, 1, A_28, (0 + ((j).toNat)), c_29, ints .i64 (([]) ++ ((U).take (j).toNat)), false⟩, ⟨3, 1, (some ⟨g_25, 0, none⟩), 1, 1, ints .i64 ([rd l i]), false⟩, ⟨3, 1, A1, n1, c1, ints .i64 U, false⟩, ⟨3, 1, A_1, (fstL s).length, c_2, ints .i64 (fstL s), false⟩]) rfl ?_
        refine cd_as (v := .slice A_28 (0 + ((j).toNat)) c_29) rfl ?_
        refine cd_one 10 (by kernel_rfl) ?_
        refine c1_a 10 rfl rfl (a_appendI 0 rfl Try.underlying22 zb3 rfl rfl rfl (rdr 1 rfl) (by omega)) ?_
        rintro _ _ ⟨A_30, c_31, rfl, rfl⟩
        refine ⟨fun _ h => h.sel [2, 3] (by decide) rfl, ?_⟩
        refine cd_rows (R1 := [⟨3, 1, A_30, ((0 + ((j).toNat)) + 1), c_31, ints .i64 ((([]) ++ ((U).take (j).toNat)) ++ ([rd l i])), false⟩, ⟨3, 1, (some ⟨g_25, 0, none⟩), 1, 1, ints .i64 ([rd l i]), false⟩, ⟨3, 1, A1, n1, c1, ints .i64 U, false⟩, ⟨3, 1, A_1, (fstL s).length, c_2, ints .i64 (fstL s), false⟩]) rfl ?_
        refine cd_as (v := .slice A_30 ((0 + ((j).toNat)) + 1) c_31) rfl ?_
        refine cd_one 14 (by kernel_rfl) ?_
        refine c1_a 14 rfl rfl (a_appendI 0 rfl Try.underlying22 zb3 rfl rfl rfl (RdC.fromI (rdr 2 rfl) (by omega)) (by omega)) ?_
        rintro _ _ ⟨A_32, c_33, rfl, rfl⟩
        refine ⟨fun _ h => h.sel [2, 3] (by decide) rfl, ?_⟩
        refine cd_rows (R1 := [⟨3, 1, A_32, (((0 + ((j).toNat)) + 1) + (n1 - (j).toNat)), c_33, ints .i64 (((([]) ++ ((U).take (j).toNat)) ++ ([rd l i])) ++ ((U).drop (j).toNat)), false⟩, ⟨3, 1, (some ⟨g_25, 0, none⟩), 1, 1, ints .i64 ([rd l i]), false⟩, ⟨3, 1, A1, n1, c1, ints .i64 U, false⟩, ⟨3, 1, A_1, (fstL s).length, c_2, ints .i64 (fstL s), false⟩]) rfl ?_
        refine cd_as (v := .slice A_32 (((0 + ((j).toNat)) + 1) + (n1 - (j).toNat)) c_33) rfl ?_
        refine cd_y 15 rfl (by kernel_rfl) rfl (y_assign rfl) ?_
        refine cd_nil (by kernel_rfl) ?_
        refine w_reg ?_
        refine wr_y rfl (y_move rfl) ?_
        refine wr_y rfl (y_addI rfl rfl (by omega)) ?_
        refine wr_y rfl (y_assign rfl) ?_
        refine wr_nil ?_
        exact ⟨i + 1, A_32, ((0 + ((j).toNat)) + 1) + (n1 - (j).toNat), c_33, ((([]) ++ ((U).take (j).toNat)) ++ ([rd l i])) ++ ((U).drop (j).toNat), ⟨(by omega), (by omega), (by simp only [List.length_append, List.length_take, List.length_drop, List.length_cons, List.length_nil]; omega), (hins.1), (hins.2)⟩, (by omega), (Sub.cons rfl (Sub.cons rfl (Sub.cons rfl (Sub.cons rfl Sub.nil)))), fun _ h => h.sel [0, 3] (by decide) rfl⟩
  ·
    refine w_exit ?_
    refine w_seq ?_
    refine w_reg ?_
    refine wr_y rfl (y_move rfl) ?_
    refine wr_y rfl (y_move rfl) ?_
    refine wr_a rfl (a_callF en21 rfl (Ct.quiet (fun w hw => ints4_ct ((rdr 1 rfl) w hw) ((rdr 0 rfl) w hw) (by have := fstL_len (s := s); omega)))) ?_
    rintro _ _ ⟨rfl, rfl⟩
    refine wr_y rfl (y_assign rfl) ?_
    refine wr_nil ?_
    refine w_retR (R1 := []) (fun _ h => h.sel [] (by decide) rfl) ?_
    refine ⟨_, rfl, ?_⟩
    rw [List.take_of_length_le (by omega)] at hp
    have e := insN_eq hp hs
    subst e
    exact congrArg Value.bool (decide_eq_decide.2 (by rw [← sortL_fst]; exact eq_comm))

/-- The large ones, the last place ahead of all. -/
def zL (s : List Int) (k : Int) (l : List Int) (i : Int) : List Int × List Int := if i < 0 then ((itF s k l).1, startsV (cntV s k)) else itL s k l i.toNat
theorem zL_neg {s l : List Int} {k i : Int} (h : i < 0) : zL s k l i = ((itF s k l).1, startsV (cntV s k)) := if_pos h
theorem zL_pos {s l : List Int} {k i : Int} (h : ¬ i < 0) : zL s k l i = itL s k l i.toNat := if_neg h
theorem fFI {s l D H : List Int} {k i : Int} (hk : 0 ≤ k) (hs : ∀ x ∈ s, 0 ≤ x ∧ x < k) (hp : l.Perm (fstL s)) (h0 : 0 ≤ i) (hi : i < l.length) (hr : D = (itF s k (l.drop (i + 1).toNat)).1) (hE : H = (itF s k (l.drop (i + 1).toNat)).2) :
    (0 ≤ rd l i ∧ rd l i < s.length) ∧ (0 ≤ rd s (rd l i) ∧ rd s (rd l i) < k) ∧ (0 ≤ rd H (rd s (rd l i)) - 1 ∧ rd H (rd s (rd l i)) - 1 < s.length) ∧ (D.length = s.length ∧ H.length = k.toNat) ∧
    upd D (rd H (rd s (rd l i)) - 1) (rd l i) = (itF s k (l.drop (i - 1 + 1).toNat)).1 ∧ upd H (rd s (rd l i)) (rd H (rd s (rd l i)) - 1) = (itF s k (l.drop (i - 1 + 1).toNat)).2 := by
  have e : (i + 1).toNat = i.toNat + 1 := by omega
  have h := fF (row := D) (E := H) hk hs hp (m := i.toNat) (by omega) (by rw [← e]; exact hr) (by rw [← e]; exact hE)
  rw [Int.toNat_of_nonneg h0] at h
  rwa [show (i - 1 + 1).toNat = i.toNat by omega]
theorem neg_rep {D : List Int} {n : Nat} (hl : D.length = n) (h : ∀ j : Int, 0 ≤ j → j < n → rd D j = -1) : D = List.replicate n (-1) :=
  list_ext_rd (by rw [hl, List.length_replicate]) fun j h0 h1 => by
    rw [h j h0 (by omega)]
    unfold rd
    rw [List.getD_eq_getElem?_getD, List.getElem?_replicate, if_pos (by omega)]
    rfl
/-! whorl/whorlref12.Sort -/
set_option maxRecDepth 100000 in
set_option maxHeartbeats 4000000 in
theorem sort12_ct {w : World} {A_s : Option Addr} {n_s c_s : Nat} {s : List Int} {k : Int} {A_l : Option Addr} {n_l c_l : Nat} {l : List Int} (h_s : Rd w A_s n_s c_s 1 (ints .i64 s)) (h_l : Rd w A_l n_l c_l 1 (ints .i64 l)) (hok : (0 ≤ k ∧ k ≤ 1048576) ∧ ∀ x ∈ s, 0 ≤ x ∧ x < k) (hp : l.Perm (fstL s)) (hN : s.length ≤ 1000000) :
    Ct Try.prog 28 #[.slice A_s n_s c_s, .int .i64 k, .slice A_l n_l c_l] w.heap.size w [] (fun v R' => ∃ A c, v = .tuple #[.slice A s.length c, .bool true] ∧ R' = [⟨3, 1, A, s.length, c, ints .i64 (indS s k l), false⟩]) := by
  obtain rfl := h_s.lenI
  obtain rfl := h_l.lenI
  refine fn2 Try.func28 rfl rfl rfl ?_
  have m_s := h_s.max
  have m_l := h_l.max
  have hk := hok.1
  have hs := hok.2
  have hll := fst_len_le hp
  have hcl : (cntV s k).length = k.toNat := cntV_len _ _
  have hsum : (cntV s k).sum = s.length := cnt_sum hk.1 hs
  have hSl : (startsV (cntV s k)).length = k.toNat := by rw [startsV_len, hcl]
  have hEl : (endsV (cntV s k)).length = k.toNat := by rw [endsV_len, hcl]
  refine w_seq ?_
  refine w_reg ?_
  refine wr_y rfl (y_assign rfl) ?_
  refine wr_y rfl (y_assign rfl) ?_
  refine wr_nil ?_
  refine w_seq ?_
  refine w_reg ?_
  refine wr_y rfl (y_move rfl) ?_
  refine wr_y rfl (y_move rfl) ?_
  refine wr_a rfl (a_callF en39 rfl (Ct.fresh (fun w hw => counts10_ct ((h_s.c _) w hw) (by first | assumption | omega | decide)))) ?_
  rintro _ _ ⟨_, rfl, A_1, c_2, rfl, rfl⟩
  refine wr_y rfl (y_move rfl) ?_
  refine wr_y rfl (y_extract rfl rfl) ?_
  refine wr_y rfl (y_extract rfl rfl) ?_
  refine wr_y rfl (y_assign rfl) ?_
  refine wr_y rfl (y_assign rfl) ?_
  refine wr_nil ?_
  refine w_seq ?_
  refine w_seq ?_
  refine w_reg ?_
  refine wr_y rfl (y_move rfl) ?_
  refine wr_y rfl (y_not rfl) ?_
  refine wr_y rfl (y_move rfl) ?_
  refine wr_yes rfl rfl ?_
  refine wr_y rfl (y_move rfl) ?_
  refine wr_yes rfl rfl ?_
  refine wr_y rfl (y_move rfl) ?_
  refine wr_yes rfl rfl ?_
  refine wr_a rfl (a_callF en56 rfl (Ct.quiet (fun w hw => may12_ct ((h_s.c _) w hw) ((h_l.c _) w hw) (by omega) (by omega)))) ?_
  rintro _ _ ⟨rfl, rfl⟩
  refine wr_setT 36 rfl (hp) ?_
  refine wr_yes rfl rfl ?_
  refine wr_y rfl (y_not rfl) ?_
  refine wr_y rfl (y_pickF rfl rfl) ?_
  refine wr_nil ?_
  refine w_false rfl ?_
  refine w_skip ?_
  refine w_seq ?_
  refine w_reg ?_
  refine wr_y rfl (y_move rfl) ?_
  refine wr_y rfl (y_len Try.underlying22 rfl) ?_
  refine wr_y rfl (y_assign rfl) ?_
  refine wr_nil ?_
  refine w_seq ?_
  refine w_reg ?_
  refine wr_y rfl (y_move rfl) ?_
  refine wr_a rfl (a_callF en57 rfl (Ct.fresh (fun w hw => small11_ct ((h_s.c _) w hw) (by first | assumption | omega | decide)))) ?_
  rintro _ _ ⟨_, rfl, A_3, c_4, rfl, rfl⟩
  refine wr_y rfl (y_assign rfl) ?_
  refine wr_nil ?_
  refine w_seq ?_
  refine w_reg ?_
  refine wr_y rfl (y_move rfl) ?_
  refine wr_a rfl (a_makeN Try.underlying22 zb3 rfl rfl (by omega) (by omega) (by omega)) ?_
  rintro _ _ ⟨g_5, rfl, rfl⟩
  refine wr_rows (R1 := [⟨3, 1, (some ⟨g_5, 0, none⟩), s.length, s.length, ints .i64 (List.replicate s.length (0 : Int)), false⟩, ⟨4, 1, A_3, s.length, c_4, bools (smL s), false⟩, ⟨3, 1, A_1, ((k).toNat), c_2, ints .i64 (cntV s k), false⟩]) rfl ?_
  refine wr_as (v := .slice (some ⟨g_5, 0, none⟩) s.length s.length) rfl ?_
  refine wr_y rfl (y_assign rfl) ?_
  refine wr_nil ?_
  refine w_seq ?_
  refine w_seq ?_
  refine w_reg ?_
  refine wr_y rfl (y_assign rfl) ?_
  refine wr_nil ?_
  refine w_block ?_
  refine w_loop2 (fun (i : Int) (D : List Int) => [(0, .slice A_s s.length c_s), (2, .slice A_l l.length c_l), (8, .slice A_1 ((k).toNat) c_2), (10, .int .i64 ((s.length : Nat) : Int)), (11, .slice A_3 s.length c_4), (12, .slice (some ⟨g_5, 0, none⟩) s.length s.length), (13, .int .i64 i)]) (fun (i : Int) (D : List Int) => [⟨3, 1, (some ⟨g_5, 0, none⟩), s.length, s.length, ints .i64 D, false⟩, ⟨4, 1, A_3, s.length, c_4, bools (smL s), false⟩, ⟨3, 1, A_1, ((k).toNat), c_2, ints .i64 (cntV s k), false⟩]) (fun (i : Int) (D : List Int) => (0 ≤ i) ∧ (i ≤ s.length) ∧ (D.length = s.length) ∧ (∀ j : Int, 0 ≤ j → j < i → rd D j = -1)) (fun (i : Int) (D : List Int) => (s.length - i).toNat) ?_ ?_
  ·
    exact ⟨0, List.replicate s.length (0 : Int), ⟨(by omega), (by omega), (by rw [List.length_replicate]), (fun j h1 h2 => by omega)⟩, (Sub.cons rfl (Sub.cons rfl (Sub.cons rfl (Sub.cons rfl (Sub.cons rfl (Sub.cons rfl (Sub.cons rfl Sub.nil))))))), fun _ h => h⟩
  intro i D ⟨hi0, hi1, hDl, hD⟩
  refine w_seq ?_
  refine w_seq ?_
  refine w_reg ?_
  refine wr_y rfl (y_move rfl) ?_
  refine wr_y rfl (y_move rfl) ?_
  refine wr_y rfl (y_lt rfl rfl) ?_
  refine wr_nil ?_
  refine w_if rfl (fun hc1 => ?_) (fun hc1 => ?_)
  ·
    refine w_skip ?_
    refine w_seq ?_
    refine w_block ?_
    refine w_reg ?_
    refine wr_y rfl (y_move rfl) ?_
    refine wr_y rfl (y_move rfl) ?_
    refine wr_y rfl (y_index1 Try.underlying22 sz3 rfl rfl (rdr 0 rfl) (by omega) (by omega)) ?_
    refine wr_n (a_storeI 0 rfl sz3 rfl rfl (by omega) (by omega)) ?_
    rintro _ _ rfl
    refine wr_rows (R1 := [⟨3, 1, (some ⟨g_5, 0, none⟩), s.length, s.length, ints .i64 (upd D i (-1)), false⟩, ⟨4, 1, A_3, s.length, c_4, bools (smL s), false⟩, ⟨3, 1, A_1, ((k).toNat), c_2, ints .i64 (cntV s k), false⟩]) rfl ?_
    refine wr_nil ?_
    refine w_reg ?_
    refine wr_y rfl (y_move rfl) ?_
    refine wr_y rfl (y_addI rfl rfl (by omega)) ?_
    refine wr_y rfl (y_assign rfl) ?_
    refine wr_nil ?_
    exact ⟨i + 1, upd D i (-1), ⟨(by omega), (by omega), (by rw [upd_length]; exact hDl), (fill_step (f := fun _ => -1) hi0 (by omega) hD rfl)⟩, (by omega), (Sub.cons rfl (Sub.cons rfl (Sub.cons rfl (Sub.cons rfl (Sub.cons rfl (Sub.cons rfl (Sub.cons rfl Sub.nil))))))), fun _ h => h⟩
  ·
    have hDr := neg_rep hDl (fun j h0 h1 => hD j h0 (by omega))
    refine w_exit ?_
    refine w_seq ?_
    refine w_reg ?_
    refine wr_y rfl (y_move rfl) ?_
    refine wr_a rfl (a_callF en58 rfl (Ct.fresh (fun w hw => ends12_ct ((rdr 2 rfl) w hw) (cntV_nonneg _ _) (by rw [hsum]; omega) (by rw [hcl]; omega)))) ?_
    rintro _ _ ⟨_, rfl, A_6, c_7, rfl, rfl⟩
    refine wr_y rfl (y_assign rfl) ?_
    refine wr_nil ?_
    refine w_seq ?_
    refine w_seq ?_
    refine w_reg ?_
    refine wr_y rfl (y_move rfl) ?_
    refine wr_y rfl (y_len Try.underlying22 rfl) ?_
    refine wr_y rfl (y_subI rfl rfl (by omega)) ?_
    refine wr_y rfl (y_assign rfl) ?_
    refine wr_nil ?_
    refine w_block ?_
    refine w_loop3 (fun (i : Int) (D : List Int) (H : List Int) => [(0, .slice A_s s.length c_s), (2, .slice A_l l.length c_l), (8, .slice A_1 ((k).toNat) c_2), (10, .int .i64 ((s.length : Nat) : Int)), (11, .slice A_3 s.length c_4), (12, .slice (some ⟨g_5, 0, none⟩) s.length s.length), (14, .slice A_6 ((endsV (cntV s k)).length) c_7), (15, .int .i64 i)]) (fun (i : Int) (D : List Int) (H : List Int) => [⟨3, 1, A_6, (endsV (cntV s k)).length, c_7, ints .i64 H, false⟩, ⟨3, 1, (some ⟨g_5, 0, none⟩), s.length, s.length, ints .i64 D, false⟩, ⟨4, 1, A_3, s.length, c_4, bools (smL s), false⟩, ⟨3, 1, A_1, ((k).toNat), c_2, ints .i64 (cntV s k), false⟩]) (fun (i : Int) (D : List Int) (H : List Int) => (-1 ≤ i) ∧ (i < l.length) ∧ (D = (itF s k (l.drop (i + 1).toNat)).1) ∧ (H = (itF s k (l.drop (i + 1).toNat)).2)) (fun (i : Int) (D : List Int) (H : List Int) => (i + 1).toNat) ?_ ?_
    ·
      exact ⟨((l.length : Nat) : Int) - 1, D, endsV (cntV s k), ⟨(by omega), (by omega), (by rw [hDr, show (((l.length : Nat) : Int) - 1 + 1).toNat = l.length by omega, List.drop_length]; rfl), (by rw [show (((l.length : Nat) : Int) - 1 + 1).toNat = l.length by omega, List.drop_length]; rfl)⟩, (Sub.cons rfl (Sub.cons rfl (Sub.cons rfl (Sub.cons rfl (Sub.cons rfl (Sub.cons rfl (Sub.cons rfl (Sub.cons rfl Sub.nil)))))))), fun _ h => h⟩
    intro i D H ⟨hi0, hi1, hD, hH⟩
    refine w_seq ?_
    refine w_seq ?_
    refine w_reg ?_
    refine wr_y rfl (y_move rfl) ?_
    refine wr_y rfl (y_ge rfl rfl) ?_
    refine wr_nil ?_
    refine w_if rfl (fun hc2 => ?_) (fun hc2 => ?_)
    ·
      obtain ⟨f1, f2, f3, f4, f5, f6⟩ := fFI hk.1 hs hp (by omega) hi1 hD hH
      have he : rd (upd H (rd s (rd l i)) ((rd H (rd s (rd l i))) - 1)) (rd s (rd l i)) = (rd H (rd s (rd l i))) - 1 := rd_upd_same f2.1 (by omega)
      refine w_skip ?_
      refine w_seq ?_
      refine w_block ?_
      refine w_seq ?_
      refine w_reg ?_
      refine wr_y rfl (y_move rfl) ?_
      refine wr_y rfl (y_move rfl) ?_
      refine wr_y rfl (y_move rfl) ?_
      refine wr_y rfl (y_index1 Try.underlying22 sz3 rfl rfl (h_l.c _) (by omega) (by omega)) ?_
      refine wr_y rfl (y_ldI Try.underlying3 rfl rfl (h_l.c _) (by omega) (by omega)) ?_
      refine wr_y rfl (y_index1 Try.underlying22 sz3 rfl rfl (h_s.c _) (by omega) (by omega)) ?_
      refine wr_y rfl (y_ldI Try.underlying3 rfl rfl (h_s.c _) (by omega) (by omega)) ?_
      refine wr_y rfl (y_assign rfl) ?_
      refine wr_nil ?_
      refine w_seq ?_
      refine w_reg ?_
      refine wr_y rfl (y_move rfl) ?_
      refine wr_y rfl (y_move rfl) ?_
      refine wr_y rfl (y_index1 Try.underlying22 sz3 rfl rfl (rdr 0 rfl) (by omega) (by omega)) ?_
      refine wr_y rfl (y_ldI Try.underlying3 rfl rfl (rdr 0 rfl) (by omega) (by omega)) ?_
      refine wr_y rfl (y_subI rfl rfl (by omega)) ?_
      refine wr_y rfl (y_index1 Try.underlying22 sz3 rfl rfl (rdr 0 rfl) (by omega) (by omega)) ?_
      refine wr_n (a_storeI 0 rfl sz3 rfl rfl (by omega) (by omega)) ?_
      rintro _ _ rfl
      refine wr_rows (R1 := [⟨3, 1, A_6, (endsV (cntV s k)).length, c_7, ints .i64 (upd H (rd s (rd l i)) ((rd H (rd s (rd l i))) - 1)), false⟩, ⟨3, 1, (some ⟨g_5, 0, none⟩), s.length, s.length, ints .i64 D, false⟩, ⟨4, 1, A_3, s.length, c_4, bools (smL s), false⟩, ⟨3, 1, A_1, ((k).toNat), c_2, ints .i64 (cntV s k), false⟩]) rfl ?_
      refine wr_nil ?_
      refine w_regd mixed ?_
      refine wd_y 0 rfl (by kernel_rfl) rfl (y_move rfl) ?_
      refine wd_y 1 rfl (by kernel_rfl) rfl (y_move rfl) ?_
      refine wd_y 2 rfl (by kernel_rfl) rfl (y_move rfl) ?_
      refine wd_y 3 rfl (by kernel_rfl) rfl (y_index1 Try.underlying22 sz3 rfl rfl (rdr 0 rfl) (by omega) (by omega)) ?_
      refine wd_y 4 rfl (by kernel_rfl) rfl (y_ldI Try.underlying3 rfl rfl (rdr 0 rfl) (by omega) (by omega)) ?_
      refine wd_y 5 rfl (by kernel_rfl) rfl (y_move rfl) ?_
      refine wd_y 6 rfl (by kernel_rfl) rfl (y_move rfl) ?_
      refine wd_y 7 rfl (by kernel_rfl) rfl (y_index1 Try.underlying22 sz3 rfl rfl (h_l.c _) (by omega) (by omega)) ?_
      refine wd_y 8 rfl (by kernel_rfl) rfl (y_ldI Try.underlying3 rfl rfl (h_l.c _) (by omega) (by omega)) ?_
      refine wd_y 9 rfl (by kernel_rfl) rfl (y_index1 Try.underlying22 sz3 rfl rfl (rdr 1 rfl) (by omega) (by omega)) ?_
      refine wd_n 10 rfl (by kernel_rfl) (a_storeI 1 rfl sz3 rfl rfl (by omega) (by omega)) ?_
      rintro _ _ rfl
      refine ⟨.inl (by kernel_rfl), ?_⟩
      refine wd_rows (R1 := [⟨3, 1, A_6, (endsV (cntV s k)).length, c_7, ints .i64 (upd H (rd s (rd l i)) ((rd H (rd s (rd l i))) - 1)), false⟩, ⟨3, 1, (some ⟨g_5, 0, none⟩), s.length, s.length, ints .i64 (upd D (rd (upd H (rd s (rd l i)) ((rd H (rd s (rd l i))) - 1)) (rd s (rd l i))) (rd l i)), false⟩, ⟨4, 1, A_3, s.length, c_4, bools (smL s), false⟩, ⟨3, 1, A_1, ((k).toNat), c_2, ints .i64 (cntV s k), false⟩]) rfl ?_
      refine wd_nil (by kernel_rfl) ?_
      refine w_reg ?_
      refine wr_y rfl (y_move rfl) ?_
      refine wr_y rfl (y_subI rfl rfl (by omega)) ?_
      refine wr_y rfl (y_assign rfl) ?_
      refine wr_nil ?_
      exact ⟨i - 1, upd D (rd (upd H (rd s (rd l i)) ((rd H (rd s (rd l i))) - 1)) (rd s (rd l i))) (rd l i), upd H (rd s (rd l i)) ((rd H (rd s (rd l i))) - 1), ⟨(by omega), (by omega), (by rw [he]; exact f5), (f6)⟩, (by omega), (Sub.cons rfl (Sub.cons rfl (Sub.cons rfl (Sub.cons rfl (Sub.cons rfl (Sub.cons rfl (Sub.cons rfl (Sub.cons rfl Sub.nil)))))))), fun _ h => h⟩
    ·
      refine w_sub (R1 := [⟨3, 1, (some ⟨g_5, 0, none⟩), s.length, s.length, ints .i64 D, false⟩, ⟨4, 1, A_3, s.length, c_4, bools (smL s), false⟩, ⟨3, 1, A_1, ((k).toNat), c_2, ints .i64 (cntV s k), false⟩]) (Sub.refl _) (fun _ h => h.sel [1, 2, 3] (by decide) rfl) ?_
      have hie : (i + 1).toNat = 0 := by omega
      rw [hie, List.drop_zero] at hD
      have hD1 := hD
      have hDl1 : D.length = s.length := by have h := (itF_lens hk.1 hs hp 0).1; rw [List.drop_zero] at h; rw [hD]; exact h
      refine w_exit ?_
      refine w_seq ?_
      refine w_reg ?_
      refine wr_y rfl (y_move rfl) ?_
      refine wr_a rfl (a_callF en59 rfl (Ct.fresh (fun w hw => starts10_ct ((rdr 2 rfl) w hw) (cntV_nonneg _ _) (by rw [hsum]; omega) (by rw [hcl]; omega)))) ?_
      rintro _ _ ⟨_, rfl, A_8, c_9, rfl, rfl⟩
      refine wr_y rfl (y_assign rfl) ?_
      refine wr_nil ?_
      refine w_seq ?_
      refine w_seq ?_
      refine w_reg ?_
      refine wr_y rfl (y_assign rfl) ?_
      refine wr_nil ?_
      refine w_block ?_
      refine w_loop3 (fun (i : Int) (D : List Int) (H : List Int) => [(0, .slice A_s s.length c_s), (8, .slice A_1 ((k).toNat) c_2), (10, .int .i64 ((s.length : Nat) : Int)), (11, .slice A_3 s.length c_4), (12, .slice (some ⟨g_5, 0, none⟩) s.length s.length), (17, .slice A_8 ((startsV (cntV s k)).length) c_9), (18, .int .i64 i)]) (fun (i : Int) (D : List Int) (H : List Int) => [⟨3, 1, A_8, (startsV (cntV s k)).length, c_9, ints .i64 H, false⟩, ⟨3, 1, (some ⟨g_5, 0, none⟩), s.length, s.length, ints .i64 D, false⟩, ⟨4, 1, A_3, s.length, c_4, bools (smL s), false⟩, ⟨3, 1, A_1, ((k).toNat), c_2, ints .i64 (cntV s k), false⟩]) (fun (i : Int) (D : List Int) (H : List Int) => (-1 ≤ i) ∧ (i ≤ s.length) ∧ (D.length = s.length) ∧ (H.length = k.toNat) ∧ (0 < s.length → D = (zL s k l i).1) ∧ (0 < s.length → H = (zL s k l i).2)) (fun (i : Int) (D : List Int) (H : List Int) => (s.length - i).toNat) ?_ ?_
      ·
        exact ⟨-1, D, startsV (cntV s k), ⟨(by omega), (by omega), (hDl1), (hSl), (fun _ => by rw [zL_neg (by omega)]; exact hD1), (fun _ => by rw [zL_neg (by omega)])⟩, (Sub.cons rfl (Sub.cons rfl (Sub.cons rfl (Sub.cons rfl (Sub.cons rfl (Sub.cons rfl (Sub.cons rfl Sub.nil))))))), fun _ h => h⟩
      intro i D H ⟨hi0, hi1, hDl, hHl, hD, hH⟩
      refine w_seq ?_
      refine w_seq ?_
      refine w_reg ?_
      refine wr_y rfl (y_move rfl) ?_
      refine wr_y rfl (y_move rfl) ?_
      refine wr_y rfl (y_lt rfl rfl) ?_
      refine wr_nil ?_
      refine w_if rfl (fun hc3 => ?_) (fun hc3 => ?_)
      ·
        refine w_skip ?_
        refine w_seq ?_
        refine w_block ?_
        refine w_seq ?_
        refine w_reg ?_
        refine wr_y rfl (y_move rfl) ?_
        refine wr_y rfl (y_assign rfl) ?_
        refine wr_nil ?_
        refine w_seq ?_
        refine w_seq ?_
        refine w_reg ?_
        refine wr_y rfl (y_move rfl) ?_
        refine wr_y rfl (y_ge rfl rfl) ?_
        refine wr_nil ?_
        refine w_if rfl (fun hc4 => ?_) (fun hc4 => ?_)
        ·
          have hn : 0 < s.length := by omega
          have hDn := hD hn
          have hHn := hH hn
          rw [zL_pos (by omega)] at hDn hHn
          have hf := fLeZ hk.1 hs hp hn hc4 (by omega) hDn hHn
          have hf1 := hf.1
          refine w_reg ?_
          refine wr_y rfl (y_move rfl) ?_
          refine wr_y rfl (y_move rfl) ?_
          refine wr_y rfl (y_index1 Try.underlying22 sz3 rfl rfl (rdr 1 rfl) (by omega) (by omega)) ?_
          refine wr_y rfl (y_ldI Try.underlying3 rfl rfl (rdr 1 rfl) (by omega) (by omega)) ?_
          refine wr_y rfl (y_assign rfl) ?_
          refine wr_nil ?_
          refine w_seq ?_
          refine w_reg ?_
          refine wr_y rfl (y_move rfl) ?_
          refine wr_y rfl (y_gt rfl rfl) ?_
          refine wr_y rfl (y_move rfl) ?_
          refine wr_mid 7 [(0, .slice A_s s.length c_s), (8, .slice A_1 ((k).toNat) c_2), (10, .int .i64 ((s.length : Nat) : Int)), (11, .slice A_3 s.length c_4), (12, .slice (some ⟨g_5, 0, none⟩) s.length s.length), (17, .slice A_8 ((startsV (cntV s k)).length) c_9), (18, .int .i64 i), (19, .int .i64 (rd D i)), (108, .bool (decide ((0 < (rd D i)) ∧ (¬ (rdb (smL s) ((rd D i) - 1) = true)))))] [⟨3, 1, A_8, (startsV (cntV s k)).length, c_9, ints .i64 H, false⟩, ⟨3, 1, (some ⟨g_5, 0, none⟩), s.length, s.length, ints .i64 D, false⟩, ⟨4, 1, A_3, s.length, c_4, bools (smL s), false⟩, ⟨3, 1, A_1, ((k).toNat), c_2, ints .i64 (cntV s k), false⟩] ?_ ?_
          ·
            refine wr_case 101 rfl (fun hc5 => ?_) (fun hc5 => ?_)
            ·
              refine wr_yes rfl rfl ?_
              refine wr_y rfl (y_move rfl) ?_
              refine wr_yes rfl rfl ?_
              refine wr_y rfl (y_move rfl) ?_
              refine wr_yes rfl rfl ?_
              refine wr_y rfl (y_subI rfl rfl (by omega)) ?_
              refine wr_yes rfl rfl ?_
              refine wr_y rfl (y_index1 Try.underlying55 sz4 rfl rfl (rdr 2 rfl) (by omega) (by omega)) ?_
              refine wr_yes rfl rfl ?_
              refine wr_y rfl (y_ldB Try.underlying4 rfl rfl (rdr 2 rfl) (by omega) (by omega)) ?_
              refine wr_yes rfl rfl ?_
              refine wr_y rfl (y_notD rfl) ?_
              refine wr_y rfl (y_pickT rfl rfl) ?_
              refine wr_nil ?_
              exact ⟨(Sub.cons rfl (Sub.cons rfl (Sub.cons rfl (Sub.cons rfl (Sub.cons rfl (Sub.cons rfl (Sub.cons rfl (Sub.cons rfl (Sub.to rfl (mb (by first | omega | exact ⟨fun h => ⟨(by assumption), h⟩, fun h => h.2⟩ | simp [*])) Sub.nil))))))))), fun _ h => h⟩
            ·
              refine wr_no rfl rfl rfl rfl ?_
              refine wr_no rfl rfl rfl rfl ?_
              refine wr_no rfl rfl rfl rfl ?_
              refine wr_no rfl rfl rfl rfl ?_
              refine wr_no rfl rfl rfl rfl ?_
              refine wr_no rfl rfl rfl rfl ?_
              refine wr_y rfl (y_pickF rfl rfl) ?_
              refine wr_nil ?_
              exact ⟨(Sub.cons rfl (Sub.cons rfl (Sub.cons rfl (Sub.cons rfl (Sub.cons rfl (Sub.cons rfl (Sub.cons rfl (Sub.cons rfl (Sub.to rfl (mb_f (by first | omega | exact ⟨fun h => ⟨(by assumption), h⟩, fun h => h.2⟩ | simp [*])) Sub.nil))))))))), fun _ h => h⟩
          refine wr_nil ?_
          refine w_if rfl (fun hc6 => ?_) (fun hc6 => ?_)
          ·
            obtain ⟨g1, g2, g3, g4, g5⟩ := fLZ hk.1 hs hp hn hc4 (by omega) hDn hHn hc6
            refine w_seq ?_
            refine w_reg ?_
            refine wr_y rfl (y_move rfl) ?_
            refine wr_y rfl (y_move rfl) ?_
            refine wr_y rfl (y_subI rfl rfl (by omega)) ?_
            refine wr_y rfl (y_index1 Try.underlying22 sz3 rfl rfl (h_s.c _) (by omega) (by omega)) ?_
            refine wr_y rfl (y_ldI Try.underlying3 rfl rfl (h_s.c _) (by omega) (by omega)) ?_
            refine wr_y rfl (y_assign rfl) ?_
            refine wr_nil ?_
            refine w_seq ?_
            refine w_reg ?_
            refine wr_y rfl (y_move rfl) ?_
            refine wr_y rfl (y_move rfl) ?_
            refine wr_y rfl (y_move rfl) ?_
            refine wr_y rfl (y_index1 Try.underlying22 sz3 rfl rfl (rdr 0 rfl) (by omega) (by omega)) ?_
            refine wr_y rfl (y_ldI Try.underlying3 rfl rfl (rdr 0 rfl) (by omega) (by omega)) ?_
            refine wr_y rfl (y_move rfl) ?_
            refine wr_y rfl (y_subI rfl rfl (by omega)) ?_
            refine wr_y rfl (y_index1 Try.underlying22 sz3 rfl rfl (rdr 1 rfl) (by omega) (by omega)) ?_
            refine wr_n (a_storeI 1 rfl sz3 rfl rfl (by omega) (by omega)) ?_
            rintro _ _ rfl
            refine wr_rows (R1 := [⟨3, 1, A_8, (startsV (cntV s k)).length, c_9, ints .i64 H, false⟩, ⟨3, 1, (some ⟨g_5, 0, none⟩), s.length, s.length, ints .i64 (upd D (rd H (rd s ((rd D i) - 1))) ((rd D i) - 1)), false⟩, ⟨4, 1, A_3, s.length, c_4, bools (smL s), false⟩, ⟨3, 1, A_1, ((k).toNat), c_2, ints .i64 (cntV s k), false⟩]) rfl ?_
            refine wr_nil ?_
            refine w_reg ?_
            refine wr_y rfl (y_move rfl) ?_
            refine wr_y rfl (y_move rfl) ?_
            refine wr_y rfl (y_index1 Try.underlying22 sz3 rfl rfl (rdr 0 rfl) (by omega) (by omega)) ?_
            refine wr_y rfl (y_ldI Try.underlying3 rfl rfl (rdr 0 rfl) (by omega) (by omega)) ?_
            refine wr_y rfl (y_addI rfl rfl (by omega)) ?_
            refine wr_y rfl (y_index1 Try.underlying22 sz3 rfl rfl (rdr 0 rfl) (by omega) (by omega)) ?_
            refine wr_n (a_storeI 0 rfl sz3 rfl rfl (by omega) (by omega)) ?_
            rintro _ _ rfl
            refine wr_rows (R1 := [⟨3, 1, A_8, (startsV (cntV s k)).length, c_9, ints .i64 (upd H (rd s ((rd D i) - 1)) ((rd H (rd s ((rd D i) - 1))) + 1)), false⟩, ⟨3, 1, (some ⟨g_5, 0, none⟩), s.length, s.length, ints .i64 (upd D (rd H (rd s ((rd D i) - 1))) ((rd D i) - 1)), false⟩, ⟨4, 1, A_3, s.length, c_4, bools (smL s), false⟩, ⟨3, 1, A_1, ((k).toNat), c_2, ints .i64 (cntV s k), false⟩]) rfl ?_
            refine wr_nil ?_
            refine w_reg ?_
            refine wr_y rfl (y_move rfl) ?_
            refine wr_y rfl (y_addI rfl rfl (by omega)) ?_
            refine wr_y rfl (y_assign rfl) ?_
            refine wr_nil ?_
            exact ⟨i + 1, upd D (rd H (rd s ((rd D i) - 1))) ((rd D i) - 1), upd H (rd s ((rd D i) - 1)) ((rd H (rd s ((rd D i) - 1))) + 1), ⟨(by omega), (by omega), (by rw [upd_length]; exact hDl), (by rw [upd_length]; exact hHl), (fun _ => by rw [zL_pos (by omega)]; exact g4), (fun _ => by rw [zL_pos (by omega)]; exact g5)⟩, (by omega), (Sub.cons rfl (Sub.cons rfl (Sub.cons rfl (Sub.cons rfl (Sub.cons rfl (Sub.cons rfl (Sub.cons rfl Sub.nil))))))), fun _ h => h⟩
          ·
            have g4 := fLsZ hk.1 hs hp hn hc4 (by omega) hDn hHn hc6
            refine w_skip ?_
            refine w_reg ?_
            refine wr_y rfl (y_move rfl) ?_
            refine wr_y rfl (y_addI rfl rfl (by omega)) ?_
            refine wr_y rfl (y_assign rfl) ?_
            refine wr_nil ?_
            exact ⟨i + 1, D, H, ⟨(by omega), (by omega), (hDl), (hHl), (fun _ => by rw [zL_pos (by omega)]; exact g4.1), (fun _ => by rw [zL_pos (by omega)]; exact g4.2)⟩, (by omega), (Sub.cons rfl (Sub.cons rfl (Sub.cons rfl (Sub.cons rfl (Sub.cons rfl (Sub.cons rfl (Sub.cons rfl Sub.nil))))))), fun _ h => h⟩
        ·
          refine w_skip ?_
          refine w_seq ?_
          refine w_reg ?_
          refine wr_y rfl (y_move rfl) ?_
          refine wr_y rfl (y_gt rfl rfl) ?_
          refine wr_y rfl (y_move rfl) ?_
          refine wr_mid 7 [(0, .slice A_s s.length c_s), (8, .slice A_1 ((k).toNat) c_2), (10, .int .i64 ((s.length : Nat) : Int)), (11, .slice A_3 s.length c_4), (12, .slice (some ⟨g_5, 0, none⟩) s.length s.length), (17, .slice A_8 ((startsV (cntV s k)).length) c_9), (18, .int .i64 i), (19, .int .i64 ((s.length : Nat) : Int)), (108, .bool (decide ((0 < ((s.length : Nat) : Int)) ∧ (¬ (rdb (smL s) (((s.length : Nat) : Int) - 1) = true)))))] [⟨3, 1, A_8, (startsV (cntV s k)).length, c_9, ints .i64 H, false⟩, ⟨3, 1, (some ⟨g_5, 0, none⟩), s.length, s.length, ints .i64 D, false⟩, ⟨4, 1, A_3, s.length, c_4, bools (smL s), false⟩, ⟨3, 1, A_1, ((k).toNat), c_2, ints .i64 (cntV s k), false⟩] ?_ ?_
          ·
            refine wr_case 101 rfl (fun hc7 => ?_) (fun hc7 => ?_)
            ·
              refine wr_yes rfl rfl ?_
              refine wr_y rfl (y_move rfl) ?_
              refine wr_yes rfl rfl ?_
              refine wr_y rfl (y_move rfl) ?_
              refine wr_yes rfl rfl ?_
              refine wr_y rfl (y_subI rfl rfl (by omega)) ?_
              refine wr_yes rfl rfl ?_
              refine wr_y rfl (y_index1 Try.underlying55 sz4 rfl rfl (rdr 2 rfl) (by omega) (by omega)) ?_
              refine wr_yes rfl rfl ?_
              refine wr_y rfl (y_ldB Try.underlying4 rfl rfl (rdr 2 rfl) (by omega) (by omega)) ?_
              refine wr_yes rfl rfl ?_
              refine wr_y rfl (y_notD rfl) ?_
              refine wr_y rfl (y_pickT rfl rfl) ?_
              refine wr_nil ?_
              exact ⟨(Sub.cons rfl (Sub.cons rfl (Sub.cons rfl (Sub.cons rfl (Sub.cons rfl (Sub.cons rfl (Sub.cons rfl (Sub.cons rfl (Sub.to rfl (mb (by first | omega | exact ⟨fun h => ⟨(by assumption), h⟩, fun h => h.2⟩ | simp [*])) Sub.nil))))))))), fun _ h => h⟩
            ·
              refine wr_no rfl rfl rfl rfl ?_
              refine wr_no rfl rfl rfl rfl ?_
              refine wr_no rfl rfl rfl rfl ?_
              refine wr_no rfl rfl rfl rfl ?_
              refine wr_no rfl rfl rfl rfl ?_
              refine wr_no rfl rfl rfl rfl ?_
              refine wr_y rfl (y_pickF rfl rfl) ?_
              refine wr_nil ?_
              exact ⟨(Sub.cons rfl (Sub.cons rfl (Sub.cons rfl (Sub.cons rfl (Sub.cons rfl (Sub.cons rfl (Sub.cons rfl (Sub.cons rfl (Sub.to rfl (mb_f (by first | omega | exact ⟨fun h => ⟨(by assumption), h⟩, fun h => h.2⟩ | simp [*])) Sub.nil))))))))), fun _ h => h⟩
          refine wr_nil ?_
          refine w_if rfl (fun hc8 => ?_) (fun hc8 => ?_)
          ·
            have hn : 0 < s.length := by omega
            have hDn := hD hn
            have hHn := hH hn
            rw [zL_neg (by omega)] at hDn hHn
            obtain ⟨f1, f2, f3, f4, f5, f6⟩ := fL0 hk.1 hs hp hn hDn hHn
            refine w_seq ?_
            refine w_reg ?_
            refine wr_y rfl (y_move rfl) ?_
            refine wr_y rfl (y_move rfl) ?_
            refine wr_y rfl (y_subI rfl rfl (by omega)) ?_
            refine wr_y rfl (y_index1 Try.underlying22 sz3 rfl rfl (h_s.c _) (by omega) (by omega)) ?_
            refine wr_y rfl (y_ldI Try.underlying3 rfl rfl (h_s.c _) (by omega) (by omega)) ?_
            refine wr_y rfl (y_assign rfl) ?_
            refine wr_nil ?_
            refine w_seq ?_
            refine w_reg ?_
            refine wr_y rfl (y_move rfl) ?_
            refine wr_y rfl (y_move rfl) ?_
            refine wr_y rfl (y_move rfl) ?_
            refine wr_y rfl (y_index1 Try.underlying22 sz3 rfl rfl (rdr 0 rfl) (by omega) (by omega)) ?_
            refine wr_y rfl (y_ldI Try.underlying3 rfl rfl (rdr 0 rfl) (by omega) (by omega)) ?_
            refine wr_y rfl (y_move rfl) ?_
            refine wr_y rfl (y_subI rfl rfl (by omega)) ?_
            refine wr_y rfl (y_index1 Try.underlying22 sz3 rfl rfl (rdr 1 rfl) (by omega) (by omega)) ?_
            refine wr_n (a_storeI 1 rfl sz3 rfl rfl (by omega) (by omega)) ?_
            rintro _ _ rfl
            refine wr_rows (R1 := [⟨3, 1, A_8, (startsV (cntV s k)).length, c_9, ints .i64 H, false⟩, ⟨3, 1, (some ⟨g_5, 0, none⟩), s.length, s.length, ints .i64 (upd D (rd H (rd s (((s.length : Nat) : Int) - 1))) (((s.length : Nat) : Int) - 1)), false⟩, ⟨4, 1, A_3, s.length, c_4, bools (smL s), false⟩, ⟨3, 1, A_1, ((k).toNat), c_2, ints .i64 (cntV s k), false⟩]) rfl ?_
            refine wr_nil ?_
            refine w_reg ?_
            refine wr_y rfl (y_move rfl) ?_
            refine wr_y rfl (y_move rfl) ?_
            refine wr_y rfl (y_index1 Try.underlying22 sz3 rfl rfl (rdr 0 rfl) (by omega) (by omega)) ?_
            refine wr_y rfl (y_ldI Try.underlying3 rfl rfl (rdr 0 rfl) (by omega) (by omega)) ?_
            refine wr_y rfl (y_addI rfl rfl (by omega)) ?_
            refine wr_y rfl (y_index1 Try.underlying22 sz3 rfl rfl (rdr 0 rfl) (by omega) (by omega)) ?_
            refine wr_n (a_storeI 0 rfl sz3 rfl rfl (by omega) (by omega)) ?_
            rintro _ _ rfl
            refine wr_rows (R1 := [⟨3, 1, A_8, (startsV (cntV s k)).length, c_9, ints .i64 (upd H (rd s (((s.length : Nat) : Int) - 1)) ((rd H (rd s (((s.length : Nat) : Int) - 1))) + 1)), false⟩, ⟨3, 1, (some ⟨g_5, 0, none⟩), s.length, s.length, ints .i64 (upd D (rd H (rd s (((s.length : Nat) : Int) - 1))) (((s.length : Nat) : Int) - 1)), false⟩, ⟨4, 1, A_3, s.length, c_4, bools (smL s), false⟩, ⟨3, 1, A_1, ((k).toNat), c_2, ints .i64 (cntV s k), false⟩]) rfl ?_
            refine wr_nil ?_
            refine w_reg ?_
            refine wr_y rfl (y_move rfl) ?_
            refine wr_y rfl (y_addI rfl rfl (by omega)) ?_
            refine wr_y rfl (y_assign rfl) ?_
            refine wr_nil ?_
            exact ⟨i + 1, upd D (rd H (rd s (((s.length : Nat) : Int) - 1))) (((s.length : Nat) : Int) - 1), upd H (rd s (((s.length : Nat) : Int) - 1)) ((rd H (rd s (((s.length : Nat) : Int) - 1))) + 1), ⟨(by omega), (by omega), (by rw [upd_length]; exact hDl), (by rw [upd_length]; exact hHl), (fun _ => by obtain rfl : i = -1 := (by omega); rw [zL_pos (by omega)]; exact f4), (fun _ => by obtain rfl : i = -1 := (by omega); rw [zL_pos (by omega)]; exact f5)⟩, (by omega), (Sub.cons rfl (Sub.cons rfl (Sub.cons rfl (Sub.cons rfl (Sub.cons rfl (Sub.cons rfl (Sub.cons rfl Sub.nil))))))), fun _ h => h⟩
          ·
            have hn0 : ¬ 0 < s.length := fun hn => hc8 ⟨by omega, by rw [rdb_smL (by omega) (by omega), smB_last (by omega) (by omega)]; simp⟩
            refine w_skip ?_
            refine w_reg ?_
            refine wr_y rfl (y_move rfl) ?_
            refine wr_y rfl (y_addI rfl rfl (by omega)) ?_
            refine wr_y rfl (y_assign rfl) ?_
            refine wr_nil ?_
            exact ⟨i + 1, D, H, ⟨(by omega), (by omega), (hDl), (hHl), (fun h => absurd h (by omega)), (fun h => absurd h (by omega))⟩, (by omega), (Sub.cons rfl (Sub.cons rfl (Sub.cons rfl (Sub.cons rfl (Sub.cons rfl (Sub.cons rfl (Sub.cons rfl Sub.nil))))))), fun _ h => h⟩
      ·
        refine w_sub (R1 := [⟨3, 1, (some ⟨g_5, 0, none⟩), s.length, s.length, ints .i64 D, false⟩, ⟨4, 1, A_3, s.length, c_4, bools (smL s), false⟩, ⟨3, 1, A_1, ((k).toNat), c_2, ints .i64 (cntV s k), false⟩]) (Sub.refl _) (fun _ h => h.sel [1, 2, 3] (by decide) rfl) ?_
        have hDl2 := hDl
        have hD2 : 0 < s.length → D = (itL s k l s.length).1 := fun hn => by have h := hD hn; rwa [zL_pos (by omega), show i.toNat = s.length by omega] at h
        refine w_exit ?_
        refine w_seq ?_
        refine w_seq ?_
        refine w_reg ?_
        refine wr_y rfl (y_assign rfl) ?_
        refine wr_nil ?_
        refine w_block ?_
        refine w_loop2 (fun (q : Int) (D : List Int) => [(0, .slice A_s s.length c_s), (8, .slice A_1 ((k).toNat) c_2), (10, .int .i64 ((s.length : Nat) : Int)), (11, .slice A_3 s.length c_4), (12, .slice (some ⟨g_5, 0, none⟩) s.length s.length), (21, .int .i64 q)]) (fun (q : Int) (D : List Int) => [⟨3, 1, (some ⟨g_5, 0, none⟩), s.length, s.length, ints .i64 D, false⟩, ⟨4, 1, A_3, s.length, c_4, bools (smL s), false⟩, ⟨3, 1, A_1, ((k).toNat), c_2, ints .i64 (cntV s k), false⟩]) (fun (q : Int) (D : List Int) => (0 ≤ q) ∧ (q ≤ s.length) ∧ (D.length = s.length) ∧ (0 < s.length → D = clrP s (itL s k l s.length).1 q)) (fun (q : Int) (D : List Int) => (s.length - q).toNat) ?_ ?_
        ·
          exact ⟨0, D, ⟨(by omega), (by omega), (hDl2), (fun h => by rw [clrP_zero]; exact hD2 h)⟩, (Sub.cons rfl (Sub.cons rfl (Sub.cons rfl (Sub.cons rfl (Sub.cons rfl (Sub.cons rfl Sub.nil)))))), fun _ h => h⟩
        intro q D ⟨hq0, hq1, hDl, hD⟩
        refine w_seq ?_
        refine w_seq ?_
        refine w_reg ?_
        refine wr_y rfl (y_move rfl) ?_
        refine wr_y rfl (y_move rfl) ?_
        refine wr_y rfl (y_lt rfl rfl) ?_
        refine wr_nil ?_
        refine w_if rfl (fun hc9 => ?_) (fun hc9 => ?_)
        ·
          have hn : 0 < s.length := by omega
          have hf1 := clr_ent hk.1 hs hp hn hq0 (by omega) (hD hn)
          refine w_skip ?_
          refine w_seq ?_
          refine w_block ?_
          refine w_seq ?_
          refine w_reg ?_
          refine wr_y rfl (y_move rfl) ?_
          refine wr_y rfl (y_move rfl) ?_
          refine wr_y rfl (y_index1 Try.underlying22 sz3 rfl rfl (rdr 0 rfl) (by omega) (by omega)) ?_
          refine wr_y rfl (y_ldI Try.underlying3 rfl rfl (rdr 0 rfl) (by omega) (by omega)) ?_
          refine wr_y rfl (y_ge rfl rfl) ?_
          refine wr_y rfl (y_move rfl) ?_
          refine wr_mid 8 [(0, .slice A_s s.length c_s), (8, .slice A_1 ((k).toNat) c_2), (10, .int .i64 ((s.length : Nat) : Int)), (11, .slice A_3 s.length c_4), (12, .slice (some ⟨g_5, 0, none⟩) s.length s.length), (21, .int .i64 q), (146, .bool (decide ((0 ≤ (rd D q)) ∧ (rdb (smL s) (rd D q) = true))))] [⟨3, 1, (some ⟨g_5, 0, none⟩), s.length, s.length, ints .i64 D, false⟩, ⟨4, 1, A_3, s.length, c_4, bools (smL s), false⟩, ⟨3, 1, A_1, ((k).toNat), c_2, ints .i64 (cntV s k), false⟩] ?_ ?_
          ·
            refine wr_case 138 rfl (fun hc10 => ?_) (fun hc10 => ?_)
            ·
              refine wr_yes rfl rfl ?_
              refine wr_y rfl (y_move rfl) ?_
              refine wr_yes rfl rfl ?_
              refine wr_y rfl (y_move rfl) ?_
              refine wr_yes rfl rfl ?_
              refine wr_y rfl (y_move rfl) ?_
              refine wr_yes rfl rfl ?_
              refine wr_y rfl (y_index1 Try.underlying22 sz3 rfl rfl (rdr 0 rfl) (by omega) (by omega)) ?_
              refine wr_yes rfl rfl ?_
              refine wr_y rfl (y_ldI Try.underlying3 rfl rfl (rdr 0 rfl) (by omega) (by omega)) ?_
              refine wr_yes rfl rfl ?_
              refine wr_y rfl (y_index1 Try.underlying55 sz4 rfl rfl (rdr 1 rfl) (by omega) (by omega)) ?_
              refine wr_yes rfl rfl ?_
              refine wr_y rfl (y_ldB Try.underlying4 rfl rfl (rdr 1 rfl) (by omega) (by omega)) ?_
              refine wr_y rfl (y_pickT rfl rfl) ?_
              refine wr_nil ?_
              exact ⟨(Sub.cons rfl (Sub.cons rfl (Sub.cons rfl (Sub.cons rfl (Sub.cons rfl (Sub.cons rfl (Sub.to rfl (mb (by first | omega | exact ⟨fun h => ⟨(by assumption), h⟩, fun h => h.2⟩ | simp [*])) Sub.nil))))))), fun _ h => h⟩
            ·
              refine wr_no rfl rfl rfl rfl ?_
              refine wr_no rfl rfl rfl rfl ?_
              refine wr_no rfl rfl rfl rfl ?_
              refine wr_no rfl rfl rfl rfl ?_
              refine wr_no rfl rfl rfl rfl ?_
              refine wr_no rfl rfl rfl rfl ?_
              refine wr_no rfl rfl rfl rfl ?_
              refine wr_y rfl (y_pickF rfl rfl) ?_
              refine wr_nil ?_
              exact ⟨(Sub.cons rfl (Sub.cons rfl (Sub.cons rfl (Sub.cons rfl (Sub.cons rfl (Sub.cons rfl (Sub.to rfl (mb_f (by first | omega | exact ⟨fun h => ⟨(by assumption), h⟩, fun h => h.2⟩ | simp [*])) Sub.nil))))))), fun _ h => h⟩
          refine wr_nil ?_
          refine w_if rfl (fun hc11 => ?_) (fun hc11 => ?_)
          ·
            have hcx := hc11
            refine w_reg ?_
            refine wr_y rfl (y_move rfl) ?_
            refine wr_y rfl (y_move rfl) ?_
            refine wr_y rfl (y_index1 Try.underlying22 sz3 rfl rfl (rdr 0 rfl) (by omega) (by omega)) ?_
            refine wr_n (a_storeI 0 rfl sz3 rfl rfl (by omega) (by omega)) ?_
            rintro _ _ rfl
            refine wr_rows (R1 := [⟨3, 1, (some ⟨g_5, 0, none⟩), s.length, s.length, ints .i64 (upd D q (-1)), false⟩, ⟨4, 1, A_3, s.length, c_4, bools (smL s), false⟩, ⟨3, 1, A_1, ((k).toNat), c_2, ints .i64 (cntV s k), false⟩]) rfl ?_
            refine wr_nil ?_
            refine w_reg ?_
            refine wr_y rfl (y_move rfl) ?_
            refine wr_y rfl (y_addI rfl rfl (by omega)) ?_
            refine wr_y rfl (y_assign rfl) ?_
            refine wr_nil ?_
            exact ⟨q + 1, upd D q (-1), ⟨(by omega), (by omega), (by rw [upd_length]; exact hDl), (fun hn => by have e := hD hn; have hLl := itL_len hk.1 hs hp hn; rw [e]; exact clr_yes hq0 (by omega) (by rw [← e]; exact (cl_C hf1).1 hcx))⟩, (by omega), (Sub.cons rfl (Sub.cons rfl (Sub.cons rfl (Sub.cons rfl (Sub.cons rfl (Sub.cons rfl Sub.nil)))))), fun _ h => h⟩
          ·
            have hcx := hc11
            refine w_skip ?_
            refine w_reg ?_
            refine wr_y rfl (y_move rfl) ?_
            refine wr_y rfl (y_addI rfl rfl (by omega)) ?_
            refine wr_y rfl (y_assign rfl) ?_
            refine wr_nil ?_
            exact ⟨q + 1, D, ⟨(by omega), (by omega), (hDl), (fun hn => by have e := hD hn; have hLl := itL_len hk.1 hs hp hn; rw [e]; exact clr_no hq0 (by omega) (by rw [← e]; exact fun h => hcx ((cl_C hf1).2 h)))⟩, (by omega), (Sub.cons rfl (Sub.cons rfl (Sub.cons rfl (Sub.cons rfl (Sub.cons rfl (Sub.cons rfl Sub.nil)))))), fun _ h => h⟩
        ·
          have hDl3 := hDl
          have hD3 : 0 < s.length → D = (itS s k l 0).1 := fun hn => clr_done hk.1 hs hp hn (by omega) (hD hn)
          refine w_exit ?_
          refine w_seq ?_
          refine w_reg ?_
          refine wr_y rfl (y_move rfl) ?_
          refine wr_a rfl (a_callF en58 rfl (Ct.fresh (fun w hw => ends12_ct ((rdr 2 rfl) w hw) (cntV_nonneg _ _) (by rw [hsum]; omega) (by rw [hcl]; omega)))) ?_
          rintro _ _ ⟨_, rfl, A_10, c_11, rfl, rfl⟩
          refine wr_y rfl (y_assign rfl) ?_
          refine wr_nil ?_
          refine w_seq ?_
          refine w_seq ?_
          refine w_reg ?_
          refine wr_y rfl (y_move rfl) ?_
          refine wr_y rfl (y_subI rfl rfl (by omega)) ?_
          refine wr_y rfl (y_assign rfl) ?_
          refine wr_nil ?_
          refine w_block ?_
          refine w_loop3 (fun (i : Int) (D : List Int) (H : List Int) => [(0, .slice A_s s.length c_s), (11, .slice A_3 s.length c_4), (12, .slice (some ⟨g_5, 0, none⟩) s.length s.length), (14, .slice A_10 ((endsV (cntV s k)).length) c_11), (22, .int .i64 i)]) (fun (i : Int) (D : List Int) (H : List Int) => [⟨3, 1, A_10, (endsV (cntV s k)).length, c_11, ints .i64 H, false⟩, ⟨3, 1, (some ⟨g_5, 0, none⟩), s.length, s.length, ints .i64 D, false⟩, ⟨4, 1, A_3, s.length, c_4, bools (smL s), false⟩, ⟨3, 1, A_1, ((k).toNat), c_2, ints .i64 (cntV s k), false⟩]) (fun (i : Int) (D : List Int) (H : List Int) => (-1 ≤ i) ∧ (i < s.length) ∧ (D.length = s.length) ∧ (H.length = k.toNat) ∧ (0 < s.length → D = (itS s k l (s.length - 1 - i).toNat).1) ∧ (0 < s.length → H = (itS s k l (s.length - 1 - i).toNat).2)) (fun (i : Int) (D : List Int) (H : List Int) => (i + 1).toNat) ?_ ?_
          ·
            exact ⟨((s.length : Nat) : Int) - 1, D, endsV (cntV s k), ⟨(by omega), (by omega), (hDl3), (by rw [endsV_len, hcl]), (fun h => by rw [show ((s.length : Int) - 1 - (((s.length : Nat) : Int) - 1)).toNat = 0 by omega]; exact hD3 h), (fun _ => by rw [show ((s.length : Int) - 1 - (((s.length : Nat) : Int) - 1)).toNat = 0 by omega]; rfl)⟩, (Sub.cons rfl (Sub.cons rfl (Sub.cons rfl (Sub.cons rfl (Sub.cons rfl Sub.nil))))), fun _ h => h⟩
          intro i D H ⟨hi0, hi1, hDl, hHl, hD, hH⟩
          refine w_seq ?_
          refine w_seq ?_
          refine w_reg ?_
          refine wr_y rfl (y_move rfl) ?_
          refine wr_y rfl (y_ge rfl rfl) ?_
          refine wr_nil ?_
          refine w_if rfl (fun hc12 => ?_) (fun hc12 => ?_)
          ·
            have hn : 0 < s.length := by omega
            have hDn := hD hn
            have hHn := hH hn
            have hf := fSeZ hk.1 hs hp hn hc12 (by omega) hDn hHn
            have hf1 := hf.1
            refine w_skip ?_
            refine w_seq ?_
            refine w_block ?_
            refine w_seq ?_
            refine w_reg ?_
            refine wr_y rfl (y_move rfl) ?_
            refine wr_y rfl (y_move rfl) ?_
            refine wr_y rfl (y_index1 Try.underlying22 sz3 rfl rfl (rdr 1 rfl) (by omega) (by omega)) ?_
            refine wr_y rfl (y_ldI Try.underlying3 rfl rfl (rdr 1 rfl) (by omega) (by omega)) ?_
            refine wr_y rfl (y_assign rfl) ?_
            refine wr_nil ?_
            refine w_seq ?_
            refine w_reg ?_
            refine wr_y rfl (y_move rfl) ?_
            refine wr_y rfl (y_gt rfl rfl) ?_
            refine wr_y rfl (y_move rfl) ?_
            refine wr_mid 6 [(0, .slice A_s s.length c_s), (11, .slice A_3 s.length c_4), (12, .slice (some ⟨g_5, 0, none⟩) s.length s.length), (14, .slice A_10 ((endsV (cntV s k)).length) c_11), (22, .int .i64 i), (23, .int .i64 (rd D i)), (170, .bool (decide ((0 < (rd D i)) ∧ (rdb (smL s) ((rd D i) - 1) = true))))] [⟨3, 1, A_10, (endsV (cntV s k)).length, c_11, ints .i64 H, false⟩, ⟨3, 1, (some ⟨g_5, 0, none⟩), s.length, s.length, ints .i64 D, false⟩, ⟨4, 1, A_3, s.length, c_4, bools (smL s), false⟩, ⟨3, 1, A_1, ((k).toNat), c_2, ints .i64 (cntV s k), false⟩] ?_ ?_
            ·
              refine wr_case 164 rfl (fun hc13 => ?_) (fun hc13 => ?_)
              ·
                refine wr_yes rfl rfl ?_
                refine wr_y rfl (y_move rfl) ?_
                refine wr_yes rfl rfl ?_
                refine wr_y rfl (y_move rfl) ?_
                refine wr_yes rfl rfl ?_
                refine wr_y rfl (y_subI rfl rfl (by omega)) ?_
                refine wr_yes rfl rfl ?_
                refine wr_y rfl (y_index1 Try.underlying55 sz4 rfl rfl (rdr 2 rfl) (by omega) (by omega)) ?_
                refine wr_yes rfl rfl ?_
                refine wr_y rfl (y_ldB Try.underlying4 rfl rfl (rdr 2 rfl) (by omega) (by omega)) ?_
                refine wr_y rfl (y_pickT rfl rfl) ?_
                refine wr_nil ?_
                exact ⟨(Sub.cons rfl (Sub.cons rfl (Sub.cons rfl (Sub.cons rfl (Sub.cons rfl (Sub.cons rfl (Sub.to rfl (mb (by first | omega | exact ⟨fun h => ⟨(by assumption), h⟩, fun h => h.2⟩ | simp [*])) Sub.nil))))))), fun _ h => h⟩
              ·
                refine wr_no rfl rfl rfl rfl ?_
                refine wr_no rfl rfl rfl rfl ?_
                refine wr_no rfl rfl rfl rfl ?_
                refine wr_no rfl rfl rfl rfl ?_
                refine wr_no rfl rfl rfl rfl ?_
                refine wr_y rfl (y_pickF rfl rfl) ?_
                refine wr_nil ?_
                exact ⟨(Sub.cons rfl (Sub.cons rfl (Sub.cons rfl (Sub.cons rfl (Sub.cons rfl (Sub.cons rfl (Sub.to rfl (mb_f (by first | omega | exact ⟨fun h => ⟨(by assumption), h⟩, fun h => h.2⟩ | simp [*])) Sub.nil))))))), fun _ h => h⟩
            refine wr_nil ?_
            refine w_if rfl (fun hc14 => ?_) (fun hc14 => ?_)
            ·
              obtain ⟨g1, g2, g3, g4, g5⟩ := fSZ hk.1 hs hp hn hc12 (by omega) hDn hHn hc14
              have he : rd (upd H (rd s (rd D i - 1)) ((rd H (rd s (rd D i - 1))) - 1)) (rd s (rd D i - 1)) = (rd H (rd s (rd D i - 1))) - 1 := rd_upd_same g2.1 (by omega)
              refine w_seq ?_
              refine w_reg ?_
              refine wr_y rfl (y_move rfl) ?_
              refine wr_y rfl (y_move rfl) ?_
              refine wr_y rfl (y_subI rfl rfl (by omega)) ?_
              refine wr_y rfl (y_index1 Try.underlying22 sz3 rfl rfl (h_s.c _) (by omega) (by omega)) ?_
              refine wr_y rfl (y_ldI Try.underlying3 rfl rfl (h_s.c _) (by omega) (by omega)) ?_
              refine wr_y rfl (y_assign rfl) ?_
              refine wr_nil ?_
              refine w_seq ?_
              refine w_reg ?_
              refine wr_y rfl (y_move rfl) ?_
              refine wr_y rfl (y_move rfl) ?_
              refine wr_y rfl (y_index1 Try.underlying22 sz3 rfl rfl (rdr 0 rfl) (by omega) (by omega)) ?_
              refine wr_y rfl (y_ldI Try.underlying3 rfl rfl (rdr 0 rfl) (by omega) (by omega)) ?_
              refine wr_y rfl (y_subI rfl rfl (by omega)) ?_
              refine wr_y rfl (y_index1 Try.underlying22 sz3 rfl rfl (rdr 0 rfl) (by omega) (by omega)) ?_
              refine wr_n (a_storeI 0 rfl sz3 rfl rfl (by omega) (by omega)) ?_
              rintro _ _ rfl
              refine wr_rows (R1 := [⟨3, 1, A_10, (endsV (cntV s k)).length, c_11, ints .i64 (upd H (rd s ((rd D i) - 1)) ((rd H (rd s ((rd D i) - 1))) - 1)), false⟩, ⟨3, 1, (some ⟨g_5, 0, none⟩), s.length, s.length, ints .i64 D, false⟩, ⟨4, 1, A_3, s.length, c_4, bools (smL s), false⟩, ⟨3, 1, A_1, ((k).toNat), c_2, ints .i64 (cntV s k), false⟩]) rfl ?_
              refine wr_nil ?_
              refine w_reg ?_
              refine wr_y rfl (y_move rfl) ?_
              refine wr_y rfl (y_move rfl) ?_
              refine wr_y rfl (y_move rfl) ?_
              refine wr_y rfl (y_index1 Try.underlying22 sz3 rfl rfl (rdr 0 rfl) (by omega) (by omega)) ?_
              refine wr_y rfl (y_ldI Try.underlying3 rfl rfl (rdr 0 rfl) (by omega) (by omega)) ?_
              refine wr_y rfl (y_move rfl) ?_
              refine wr_y rfl (y_subI rfl rfl (by omega)) ?_
              refine wr_y rfl (y_index1 Try.underlying22 sz3 rfl rfl (rdr 1 rfl) (by omega) (by omega)) ?_
              refine wr_n (a_storeI 1 rfl sz3 rfl rfl (by omega) (by omega)) ?_
              rintro _ _ rfl
              refine wr_rows (R1 := [⟨3, 1, A_10, (endsV (cntV s k)).length, c_11, ints .i64 (upd H (rd s ((rd D i) - 1)) ((rd H (rd s ((rd D i) - 1))) - 1)), false⟩, ⟨3, 1, (some ⟨g_5, 0, none⟩), s.length, s.length, ints .i64 (upd D (rd (upd H (rd s ((rd D i) - 1)) ((rd H (rd s ((rd D i) - 1))) - 1)) (rd s ((rd D i) - 1))) ((rd D i) - 1)), false⟩, ⟨4, 1, A_3, s.length, c_4, bools (smL s), false⟩, ⟨3, 1, A_1, ((k).toNat), c_2, ints .i64 (cntV s k), false⟩]) rfl ?_
              refine wr_nil ?_
              refine w_reg ?_
              refine wr_y rfl (y_move rfl) ?_
              refine wr_y rfl (y_subI rfl rfl (by omega)) ?_
              refine wr_y rfl (y_assign rfl) ?_
              refine wr_nil ?_
              exact ⟨i - 1, upd D (rd (upd H (rd s ((rd D i) - 1)) ((rd H (rd s ((rd D i) - 1))) - 1)) (rd s ((rd D i) - 1))) ((rd D i) - 1), upd H (rd s ((rd D i) - 1)) ((rd H (rd s ((rd D i) - 1))) - 1), ⟨(by omega), (by omega), (by rw [upd_length]; exact hDl), (by rw [upd_length]; exact hHl), (fun _ => by rw [he]; exact g4), (fun _ => g5)⟩, (by omega), (Sub.cons rfl (Sub.cons rfl (Sub.cons rfl (Sub.cons rfl (Sub.cons rfl Sub.nil))))), fun _ h => h⟩
            ·
              have g4 := fSsZ hk.1 hs hp hn hc12 (by omega) hDn hHn hc14
              refine w_skip ?_
              refine w_reg ?_
              refine wr_y rfl (y_move rfl) ?_
              refine wr_y rfl (y_subI rfl rfl (by omega)) ?_
              refine wr_y rfl (y_assign rfl) ?_
              refine wr_nil ?_
              exact ⟨i - 1, D, H, ⟨(by omega), (by omega), (hDl), (hHl), (fun _ => g4.1), (fun _ => g4.2)⟩, (by omega), (Sub.cons rfl (Sub.cons rfl (Sub.cons rfl (Sub.cons rfl (Sub.cons rfl Sub.nil))))), fun _ h => h⟩
          ·
            refine w_exit ?_
            refine w_seq ?_
            refine w_reg ?_
            refine wr_y rfl (y_move rfl) ?_
            refine wr_y rfl (y_assign rfl) ?_
            refine wr_y rfl (y_assign rfl) ?_
            refine wr_nil ?_
            refine w_retR (R1 := [⟨3, 1, (some ⟨g_5, 0, none⟩), s.length, s.length, ints .i64 D, false⟩]) (fun _ h => h.sel [1] (by decide) rfl) ?_
            refine ⟨_, _, rfl, rfl, ?_⟩
            obtain rfl : D = indS s k l := by
              rcases Nat.eq_zero_or_pos s.length with h | h
              · have e : s = [] := List.eq_nil_of_length_eq_zero h
                subst e
                rw [indS_nil hp]
                exact List.eq_nil_of_length_eq_zero hDl
              · have e := hD h
                rwa [show ((s.length : Int) - 1 - i).toNat = s.length by omega] at e
            exact ⟨_, _, rfl, rfl⟩

end Go.Proofs.Ytlagmdccneompaa
