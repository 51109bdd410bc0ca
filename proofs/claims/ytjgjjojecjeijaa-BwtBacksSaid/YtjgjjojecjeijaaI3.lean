/- Walks of Go functions, printed by a program of our own. -/
import Derived.Test.YtjgjjojecjeijaaI2
import Derived.Test.YtjgjjojecjeijaaE23
namespace Go.Proofs.Ytjgjjojecjeijaa
open Go Go.Eng Go.Pure
set_option linter.unusedVariables false
/-! whorl/induce.Sort -/
set_option maxRecDepth 100000 in
theorem sortNo1_ct {w : World} {A_s : Option Addr} {n_s c_s : Nat} {s : List Int} {k : Int} {A_l : Option Addr} {n_l c_l : Nat} {l : List Int} (h_s : Rd w A_s n_s c_s 1 (ints .i64 s)) (h_l : Rd w A_l n_l c_l 1 (ints .i64 l)) (hno : ¬ ((0 ≤ k ∧ k ≤ 1048576) ∧ ∀ x ∈ s, 0 ≤ x ∧ x < k)) (hNl : l.length ≤ 1000000) :
    Ct Try.prog 64 #[.slice A_s n_s c_s, .int .i64 k, .slice A_l n_l c_l] w.heap.size w [] (fun v R' => v = .tuple #[.slice none 0 0, .bool false]) := by
  obtain rfl := h_s.lenI
  obtain rfl := h_l.lenI
  refine fnV Try.func64 rfl rfl ?_
  have m_s := h_s.max
  have m_l := h_l.max
  refine v_seqW ?_
  refine w_reg ?_
  refine wr_y rfl (y_assign rfl) ?_
  refine wr_y rfl (y_assign rfl) ?_
  refine wr_nil ?_
  refine v_seqW ?_
  refine w_reg ?_
  refine wr_y rfl (y_move rfl) ?_
  refine wr_y rfl (y_move rfl) ?_
  refine wr_a rfl (a_callF en53 rfl (Ct.quiet (fun w hw => countsNo_ct ((h_s.c _) w hw) hno))) ?_
  rintro _ _ ⟨rfl, rfl⟩
  refine wr_y rfl (y_move rfl) ?_
  refine wr_y rfl (y_extract rfl rfl) ?_
  refine wr_y rfl (y_extract rfl rfl) ?_
  refine wr_y rfl (y_assign rfl) ?_
  refine wr_y rfl (y_assign rfl) ?_
  refine wr_nil ?_
  refine v_seqW ?_
  refine w_reg ?_
  refine wr_y rfl (y_move rfl) ?_
  refine wr_a rfl (a_callF en74 rfl (values_ct)) ?_
  rintro _ _ ⟨g_1, rfl, rfl⟩
  refine wr_a rfl (a_callF en73 rfl (Ct.fresh (fun w hw => sorted_ct ((h_l.c _) w hw) ((rdR 0 (r := ⟨23, 1, (some ⟨g_1, 0, none⟩), 1, 1, [.slice A_l l.length c_l], false⟩) rfl) w hw) (by omega)))) ?_
  rintro _ _ ⟨_, rfl, A_3, c_4, rfl, rfl⟩
  refine wr_y rfl (y_assign rfl) ?_
  refine wr_nil ?_
  refine v_seqW ?_
  refine w_seq ?_
  refine w_reg ?_
  refine wr_y rfl (y_move rfl) ?_
  refine wr_y rfl (y_not rfl) ?_
  refine wr_y rfl (y_move rfl) ?_
  refine wr_no rfl rfl rfl rfl ?_
  refine wr_no rfl rfl rfl rfl ?_
  refine wr_no rfl rfl rfl rfl ?_
  refine wr_no rfl rfl rfl rfl ?_
  refine wr_no rfl rfl rfl rfl ?_
  refine wr_y rfl (y_pickT rfl rfl) ?_
  refine wr_nil ?_
  refine w_true rfl ?_
  refine w_seq ?_
  refine w_reg ?_
  refine wr_y rfl (y_assign rfl) ?_
  refine wr_y rfl (y_assign rfl) ?_
  refine wr_nil ?_
  refine w_retR (R1 := []) (fun _ h => h.sel [] (by decide) rfl) ?_
  refine fin2 rfl Gd.refl ⟨_, _, rfl, rfl, ?_⟩
  rfl

/-! whorl/induce.Sort -/
set_option maxRecDepth 100000 in
theorem sortNo2_ct {w : World} {A_s : Option Addr} {n_s c_s : Nat} {s : List Int} {k : Int} {A_l : Option Addr} {n_l c_l : Nat} {l : List Int} (h_s : Rd w A_s n_s c_s 1 (ints .i64 s)) (h_l : Rd w A_l n_l c_l 1 (ints .i64 l)) (hok : (0 ≤ k ∧ k ≤ 1048576) ∧ ∀ x ∈ s, 0 ≤ x ∧ x < k) (hnp : ¬ l.Perm (fstL s)) (hN : s.length ≤ 1000000) (hNl : l.length ≤ 1000000) :
    Ct Try.prog 64 #[.slice A_s n_s c_s, .int .i64 k, .slice A_l n_l c_l] w.heap.size w [] (fun v R' => v = .tuple #[.slice none 0 0, .bool false]) := by
  obtain rfl := h_s.lenI
  obtain rfl := h_l.lenI
  refine fnV Try.func64 rfl rfl ?_
  have m_s := h_s.max
  have m_l := h_l.max
  refine v_seqW ?_
  refine w_reg ?_
  refine wr_y rfl (y_assign rfl) ?_
  refine wr_y rfl (y_assign rfl) ?_
  refine wr_nil ?_
  refine v_seqW ?_
  refine w_reg ?_
  refine wr_y rfl (y_move rfl) ?_
  refine wr_y rfl (y_move rfl) ?_
  refine wr_a rfl (a_callF en53 rfl (Ct.fresh (fun w hw => countsOk_ct ((h_s.c _) w hw) (by first | assumption | omega | decide)))) ?_
  rintro _ _ ⟨_, rfl, A_1, c_2, rfl, rfl⟩
  refine wr_y rfl (y_move rfl) ?_
  refine wr_y rfl (y_extract rfl rfl) ?_
  refine wr_y rfl (y_extract rfl rfl) ?_
  refine wr_y rfl (y_assign rfl) ?_
  refine wr_y rfl (y_assign rfl) ?_
  refine wr_nil ?_
  refine v_seqW ?_
  refine w_reg ?_
  refine wr_y rfl (y_move rfl) ?_
  refine wr_a rfl (a_callF en74 rfl (values_ct)) ?_
  rintro _ _ ⟨g_3, rfl, rfl⟩
  refine wr_a rfl (a_callF en73 rfl (Ct.fresh (fun w hw => sorted_ct ((h_l.c _) w hw) ((rdR 0 (r := ⟨23, 1, (some ⟨g_3, 0, none⟩), 1, 1, [.slice A_l l.length c_l], false⟩) rfl) w hw) (by omega)))) ?_
  rintro _ _ ⟨_, rfl, A_5, c_6, rfl, rfl⟩
  refine wr_y rfl (y_assign rfl) ?_
  refine wr_nil ?_
  refine v_seqW ?_
  refine w_seq ?_
  refine w_reg ?_
  refine wr_y rfl (y_move rfl) ?_
  refine wr_y rfl (y_not rfl) ?_
  refine wr_y rfl (y_move rfl) ?_
  refine wr_yes rfl rfl ?_
  refine wr_y rfl (y_move rfl) ?_
  refine wr_yes rfl rfl ?_
  refine wr_y rfl (y_move rfl) ?_
  refine wr_yes rfl rfl ?_
  refine wr_a rfl (a_callF en63 rfl (Ct.fresh (fun w hw => first_ct ((h_s.c _) w hw) (by first | assumption | omega | decide)))) ?_
  rintro _ _ ⟨_, rfl, A_8, c_9, rfl, rfl⟩
  refine wr_yes rfl rfl ?_
  refine wr_a rfl (a_callF en31 rfl (Ct.quiet (fun w hw => equalI_ct ((rdr 1 rfl) w hw) ((rdr 0 rfl) w hw) (by rw [(sortL_perm l).length_eq]; omega)))) ?_
  rintro _ _ ⟨rfl, rfl⟩
  refine wr_setF 30 rfl (fun e => hnp (sortL_fst.1 e)) ?_
  refine wr_yes rfl rfl ?_
  refine wr_y rfl (y_not rfl) ?_
  refine wr_y rfl (y_pickF rfl rfl) ?_
  refine wr_nil ?_
  refine w_true rfl ?_
  refine w_seq ?_
  refine w_reg ?_
  refine wr_y rfl (y_assign rfl) ?_
  refine wr_y rfl (y_assign rfl) ?_
  refine wr_nil ?_
  refine w_retR (R1 := []) (fun _ h => h.sel [] (by decide) rfl) ?_
  refine fin2 rfl Gd.refl ⟨_, _, rfl, rfl, ?_⟩
  rfl

theorem rd_rep0 (m : Nat) (j : Int) : rd (List.replicate m (0 : Int)) j = 0 := by
  unfold rd
  rw [List.getD_eq_getElem?_getD, List.getElem?_replicate]
  split <;> rfl
theorem insN_all {l U : List Int} {i j : Int} (hi0 : 0 ≤ i) (hi : i < l.length) (hp : U.Perm (l.take i.toNat)) (hs : U.Pairwise (· ≤ ·)) (hj0 : 0 ≤ j) (hj : j ≤ U.length) (hgt : ∀ q : Int, j ≤ q → q < U.length → rd l i ≤ rd U q) (h : ¬ (0 < j ∧ rd l i < rd U (j - 1))) :
    ((U.take j.toNat ++ [rd l i]) ++ U.drop j.toNat).Perm (l.take (i + 1).toNat) ∧ ((U.take j.toNat ++ [rd l i]) ++ U.drop j.toNat).Pairwise (· ≤ ·) := by
  refine ⟨?_, insI_sorted (r := (· ≤ ·)) (fun x y z h1 h2 => Int.le_trans h1 h2) hs hj0 hj hgt (fun h0 => by omega)⟩
  rw [take_rd hi0 hi]
  have e : U.Perm (U.take j.toNat ++ U.drop j.toNat) := by rw [List.take_append_drop]
  refine List.Perm.trans ?_ (hp.append_right _)
  refine List.Perm.trans ?_ ((e.append_right [rd l i]).symm)
  rw [List.append_assoc, List.append_assoc]
  exact (List.perm_append_comm).append_left _
theorem insN_eq {l U : List Int} (hp : U.Perm l) (hs : U.Pairwise (· ≤ ·)) : U = sortL l := (hp.trans (sortL_perm l).symm).eq_of_pairwise (fun a b _ _ h1 h2 => Int.le_antisymm h1 h2) hs (sortL_sorted l)
/-- The large ones, the last place ahead of all. -/
def zL (s : List Int) (k : Int) (l : List Int) (i : Int) : List Int × List Int := if i < 0 then ((itF s k l).1, startsV (cntV s k)) else itL s k l i.toNat
theorem zL_neg {s l : List Int} {k i : Int} (h : i < 0) : zL s k l i = ((itF s k l).1, startsV (cntV s k)) := if_pos h
theorem zL_pos {s l : List Int} {k i : Int} (h : ¬ i < 0) : zL s k l i = itL s k l i.toNat := if_neg h
theorem fFI {s l D H : List Int} {k i : Int} (hk : 0 ≤ k) (hs : ∀ x ∈ s, 0 ≤ x ∧ x < k) (hp : l.Perm (fstL s)) (h0 : 0 ≤ i) (hi : i < l.length) (hr : D = (itF s k (l.drop (i + 1).toNat)).1) (hE : H = (itF s k (l.drop (i + 1).toNat)).2) :
    (0 ≤ rd l i ∧ rd l i < s.length) ∧ (0 ≤ rd s (rd l i) ∧ rd s (rd l i) < k) ∧ (0 ≤ rd H (rd s (rd l i)) - 1 ∧ rd H (rd s (rd l i)) - 1 < s.length) ∧ (D.length = s.length ∧ H.length = k.toNat) ∧
    upd D (rd H (rd s (rd l i)) - 1) (rd l i) = (itF s k (l.drop (i - 1 + 1).toNat)).1 ∧ upd H (rd s (rd l i)) (rd H (rd s (rd l i)) - 1) = (itF s k (l.drop (i - 1 + 1).toNat)).2 := by
  have e : (i + 1).toNat = i.toNat + 1 := by omega
  have h := fF (row := D) (E := H) hk hs hp (m := i.toNat) (by omega) (by rw [← e]; exact hr) (by rw [← e]; exact hE)
  rw [Int.toNat_of_nonneg h0] at h
  rwa [show (i - 1 + 1).toNat = i.toNat by omega]
theorem neg_rep {D : List Int} {n : Nat} (hl : D.length = n) (h : ∀ j : Int, 0 ≤ j → j < n → rd D j = -1) : D = List.replicate n (-1) :=
  list_ext_rd (by rw [hl, List.length_replicate]) fun j h0 h1 => by
    rw [h j h0 (by omega)]
    unfold rd
    rw [List.getD_eq_getElem?_getD, List.getElem?_replicate, if_pos (by omega)]
    rfl
end Go.Proofs.Ytjgjjojecjeijaa
