/- Walks of Go functions, printed by a program of our own. -/
import Derived.Test.YtdfcnalkdlifiaaT
import Derived.Test.YtdfcnalkdlifiaaQ9
import Derived.Test.YtdfcnalkdlifiaaE14
namespace Go.Proofs.Ytdfcnalkdlifiaa
open Go Go.Eng Go.Pure
set_option linter.unusedVariables false
/-! whorl/whorlref4.Turn -/
set_option maxRecDepth 100000 in
theorem turn4_ct {w : World} {A_u : Option Addr} {n_u c_u : Nat} {u : List Int} {i : Int} (h_u : Rd w A_u n_u c_u 1 (ints .u8 u)) (hi : 0 ≤ i ∧ i ≤ u.length) (hN : u.length ≤ 1000000) :
    Ct Try.prog 28 #[.slice A_u n_u c_u, .int .i64 i] w.heap.size w [] (fun v R' => ∃ A c, v = .slice A (u.drop i.toNat ++ u.take i.toNat).length c ∧ R' = [⟨5, 1, A, (u.drop i.toNat ++ u.take i.toNat).length, c, ints .u8 (u.drop i.toNat ++ u.take i.toNat), false⟩]) := by
  obtain rfl := h_u.lenI
  refine fn1 Try.func28 rfl rfl rfl ?_
  have m_u := h_u.max
  refine w_seq ?_
  refine w_reg ?_
  refine wr_y rfl (y_assign rfl) ?_
  refine wr_nil ?_
  refine w_seq ?_
  refine w_regd mixed ?_
  refine wd_y 1 rfl (by kernel_rfl) rfl (y_move rfl) ?_
  refine wd_y 2 rfl (by kernel_rfl) rfl (y_move rfl) ?_
  refine wd_y 3 rfl (by kernel_rfl) rfl (y_sliceFrom Try.underlying22 sz5 rfl rfl (by omega) (by omega)) ?_
  refine wd_y 5 rfl (by kernel_rfl) rfl (y_move rfl) ?_
  refine wd_y 6 rfl (by kernel_rfl) rfl (y_move rfl) ?_
  refine wd_y 7 rfl (by kernel_rfl) rfl (y_sliceTo Try.underlying22 sz5 rfl rfl (h_u.c _) (by omega) (by omega)) ?_
  refine wd_a 0 rfl (by kernel_rfl) rfl (a_litI .u8 [] Try.underlying22 zs5 rfl rfl rfl) ?_
  rintro _ _ ⟨g_2, rfl, rfl⟩
  refine ⟨.inr fun _ h => h.right (R' := [_]), ?_⟩
  refine wd_a 4 rfl (by kernel_rfl) rfl (a_appendI 0 rfl Try.underlying22 zb5 rfl rfl rfl (RdC.fromI (h_u.c _) (by omega)) (by omega)) ?_
  rintro _ _ ⟨A_3, c_4, rfl, rfl⟩
  refine ⟨.inl (by kernel_rfl), ?_⟩
  refine wd_rows (R1 := [⟨5, 1, A_3, (0 + (u.length - (i).toNat)), c_4, ints .u8 (([]) ++ ((u).drop (i).toNat)), false⟩]) rfl ?_
  refine wd_as (v := .slice A_3 (0 + (u.length - (i).toNat)) c_4) rfl ?_
  refine wd_a 8 rfl (by kernel_rfl) rfl (a_appendI 0 rfl Try.underlying22 zb5 rfl rfl rfl (RdC.toI (h_u.c _) (by omega)) (by omega)) ?_
  rintro _ _ ⟨A_5, c_6, rfl, rfl⟩
  refine ⟨.inl (by kernel_rfl), ?_⟩
  refine wd_rows (R1 := [⟨5, 1, A_5, ((0 + (u.length - (i).toNat)) + ((i).toNat)), c_6, ints .u8 ((([]) ++ ((u).drop (i).toNat)) ++ ((u).take (i).toNat)), false⟩]) rfl ?_
  refine wd_as (v := .slice A_5 ((0 + (u.length - (i).toNat)) + ((i).toNat)) c_6) rfl ?_
  refine wd_y 9 rfl (by kernel_rfl) rfl (y_assign rfl) ?_
  refine wd_nil (by kernel_rfl) ?_
  refine w_retR (R1 := [⟨5, 1, A_5, ((0 + (u.length - (i).toNat)) + ((i).toNat)), c_6, ints .u8 ((([]) ++ ((u).drop (i).toNat)) ++ ((u).take (i).toNat)), false⟩]) (fun _ h => h.sel [0] (by decide) rfl) ?_
  refine ⟨_, rfl, ?_⟩
  have e : (0 + (u.length - i.toNat) + i.toNat) = (u.drop i.toNat ++ u.take i.toNat).length := by rw [List.length_append, List.length_drop, List.length_take]; omega
  simp only [List.nil_append, e]
  exact ⟨_, _, rfl, rfl⟩

end Go.Proofs.Ytdfcnalkdlifiaa
