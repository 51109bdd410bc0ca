/- Walks of Go functions, printed by a program of our own. -/
import Derived.Test.YtdfcnalkdlifiaaF1
import Derived.Test.YtdfcnalkdlifiaaQ3
namespace Go.Proofs.Ytdfcnalkdlifiaa
open Go Go.Eng Go.Pure
set_option linter.unusedVariables false
/-! whorl/whorlref5.Least -/
set_option maxRecDepth 100000 in
theorem least5_ct {w : World} {A_u : Option Addr} {n_u c_u : Nat} {u : List Int} (h_u : Rd w A_u n_u c_u 1 (ints .u8 u)) (bh_u : ByteL u) (hne : 0 < u.length) (hlu : u.length ≤ 1000000) :
    Ct Try.prog 71 #[.slice A_u n_u c_u] w.heap.size w [] (fun v R' => v = .int .i64 (lp u)) := by
  obtain rfl := h_u.lenI
  refine fn1 Try.func71 rfl rfl rfl ?_
  have m_u := h_u.max
  refine w_seq ?_
  refine w_reg ?_
  refine wr_y rfl (y_assign rfl) ?_
  refine wr_nil ?_
  refine w_seq ?_
  refine w_seq ?_
  refine w_reg ?_
  refine wr_y rfl (y_assign rfl) ?_
  refine wr_nil ?_
  refine w_block ?_
  refine w_loop1 (fun (p : Int) => [(0, .slice A_u u.length c_u), (3, .int .i64 p)]) (fun (p : Int) => []) (fun (p : Int) => (1 ≤ p) ∧ (p ≤ u.length + 1) ∧ (lp u = lpF u ((u.length : Int) + 1 - p).toNat p)) (fun (p : Int) => ((u.length : Int) + 1 - p).toNat) ?_ ?_
  ·
    exact ⟨1, ⟨(by omega), (by omega), (by unfold lp; congr 1; omega)⟩, (Sub.cons rfl (Sub.cons rfl Sub.nil)), fun _ h => h⟩
  intro p ⟨hp1, hp2, hl⟩
  refine w_seq ?_
  refine w_seq ?_
  refine w_reg ?_
  refine wr_y rfl (y_move rfl) ?_
  refine wr_y rfl (y_move rfl) ?_
  refine wr_y rfl (y_len Try.underlying22 rfl) ?_
  refine wr_y rfl (y_le rfl rfl) ?_
  refine wr_nil ?_
  refine w_if rfl (fun hc1 => ?_) (fun hc1 => ?_)
  ·
    refine w_skip ?_
    refine w_seq ?_
    refine w_block ?_
    refine w_seq ?_
    refine w_regd mixed ?_
    refine wd_y 0 rfl (by kernel_rfl) rfl (y_move rfl) ?_
    refine wd_y 1 rfl (by kernel_rfl) rfl (y_move rfl) ?_
    refine wd_y 2 rfl (by kernel_rfl) rfl (y_sliceFrom Try.underlying22 sz5 rfl rfl (by omega) (by omega)) ?_
    refine wd_y 3 rfl (by kernel_rfl) rfl (y_toStr Try.underlying22 Try.underlying5 Try.underlying9 rfl (RdC.fromI (h_u.c _) (by omega))) ?_
    refine wd_y 4 rfl (by kernel_rfl) rfl (y_move rfl) ?_
    refine wd_y 5 rfl (by kernel_rfl) rfl (y_move rfl) ?_
    refine wd_y 6 rfl (by kernel_rfl) rfl (y_len Try.underlying22 rfl) ?_
    refine wd_y 7 rfl (by kernel_rfl) rfl (y_move rfl) ?_
    refine wd_y 8 rfl (by kernel_rfl) rfl (y_subI rfl rfl (by omega)) ?_
    refine wd_y 9 rfl (by kernel_rfl) rfl (y_sliceTo Try.underlying22 sz5 rfl rfl (h_u.c _) (by omega) (by omega)) ?_
    refine wd_y 10 rfl (by kernel_rfl) rfl (y_toStr Try.underlying22 Try.underlying5 Try.underlying9 rfl (RdC.toI (h_u.c _) (by omega))) ?_
    refine wd_y 11 rfl (by kernel_rfl) rfl (y_eqL rfl rfl (ByteL.drop bh_u _) (ByteL.take bh_u _)) ?_
    refine wd_nil (by kernel_rfl) ?_
    refine w_if rfl (fun hc2 => ?_) (fun hc2 => ?_)
    ·
      refine w_seq ?_
      refine w_reg ?_
      refine wr_y rfl (y_move rfl) ?_
      refine wr_y rfl (y_assign rfl) ?_
      refine wr_nil ?_
      refine w_ret ?_
      refine ⟨_, rfl, ?_⟩
      exact congrArg (Value.int .i64) (by rw [hl, lpF_hit (by omega) (by assumption)])
    ·
      refine w_skip ?_
      refine w_reg ?_
      refine wr_y rfl (y_move rfl) ?_
      refine wr_y rfl (y_addI rfl rfl (by omega)) ?_
      refine wr_y rfl (y_assign rfl) ?_
      refine wr_nil ?_
      exact ⟨p + 1, ⟨(by omega), (by omega), (by rw [hl, lpF_go (by omega) (by assumption)]; congr 1; omega)⟩, (by omega), (Sub.cons rfl (Sub.cons rfl Sub.nil)), fun _ h => h⟩
  ·
    refine w_exit ?_
    refine w_seq ?_
    refine w_reg ?_
    refine wr_y rfl (y_assign rfl) ?_
    refine wr_nil ?_
    refine w_ret ?_
    refine ⟨_, rfl, ?_⟩
    have := lp_range hne
    have e0 : ((u.length : Int) + 1 - p).toNat = 0 := by omega
    rw [e0] at hl
    unfold lpF at hl
    omega

/-! whorl/whorlref5.Root -/
set_option maxRecDepth 100000 in
theorem root5_ct {w : World} {A_u : Option Addr} {n_u c_u : Nat} {u : List Int} (h_u : Rd w A_u n_u c_u 1 (ints .u8 u)) (bh_u : ByteL u) (hne : 0 < u.length) (hlu : u.length ≤ 1000000) :
    Ct Try.prog 43 #[.slice A_u n_u c_u] w.heap.size w [] (fun v R' => v = .tuple #[.slice A_u (rl u).toNat c_u, .int .i64 ((u.length : Int) / rl u)]) := by
  obtain rfl := h_u.lenI
  refine fn2 Try.func43 rfl rfl rfl ?_
  have m_u := h_u.max
  have hlp := lp_range hne
  refine w_seq ?_
  refine w_reg ?_
  refine wr_y rfl (y_assign rfl) ?_
  refine wr_y rfl (y_assign rfl) ?_
  refine wr_nil ?_
  refine w_seq ?_
  refine w_reg ?_
  refine wr_y rfl (y_move rfl) ?_
  refine wr_a rfl (a_callF en71 rfl (Ct.quiet (fun w hw => least5_ct ((h_u.c _) w hw) (by first | assumption | omega | decide) (by first | assumption | omega | decide) (by first | assumption | omega | decide)))) ?_
  rintro _ _ ⟨rfl, rfl⟩
  refine wr_y rfl (y_assign rfl) ?_
  refine wr_nil ?_
  refine w_seq ?_
  refine w_seq ?_
  refine w_reg ?_
  refine wr_y rfl (y_move rfl) ?_
  refine wr_y rfl (y_eq rfl rfl) ?_
  refine wr_nil ?_
  refine w_if rfl (fun hc1 => ?_) (fun hc1 => ?_)
  ·
    refine w_seq ?_
    refine w_reg ?_
    refine wr_y rfl (y_assign rfl) ?_
    refine wr_y rfl (y_assign rfl) ?_
    refine wr_nil ?_
    refine w_ret ?_
    refine ⟨_, _, rfl, rfl, ?_⟩
    omega
  ·
    refine w_skip ?_
    refine w_seq ?_
    refine w_seq ?_
    refine w_reg ?_
    refine wr_y rfl (y_move rfl) ?_
    refine wr_y rfl (y_len Try.underlying22 rfl) ?_
    refine wr_y rfl (y_move rfl) ?_
    refine wr_y rfl (y_rem rfl rfl (by omega) (by omega)) ?_
    refine wr_y rfl (y_ne rfl rfl) ?_
    refine wr_nil ?_
    refine w_if rfl (fun hc2 => ?_) (fun hc2 => ?_)
    ·
      refine w_reg ?_
      refine wr_y rfl (y_move rfl) ?_
      refine wr_y rfl (y_len Try.underlying22 rfl) ?_
      refine wr_y rfl (y_assign rfl) ?_
      refine wr_nil ?_
      refine w_seq ?_
      refine w_regd mixed ?_
      refine wd_y 0 rfl (by kernel_rfl) rfl (y_move rfl) ?_
      refine wd_y 1 rfl (by kernel_rfl) rfl (y_move rfl) ?_
      refine wd_y 2 rfl (by kernel_rfl) rfl (y_sliceTo Try.underlying22 sz5 rfl rfl (h_u.c _) (by omega) (by omega)) ?_
      refine wd_y 3 rfl (by kernel_rfl) rfl (y_move rfl) ?_
      refine wd_y 4 rfl (by kernel_rfl) rfl (y_len Try.underlying22 rfl) ?_
      refine wd_y 5 rfl (by kernel_rfl) rfl (y_move rfl) ?_
      refine wd_y 6 rfl (by kernel_rfl) rfl (y_quoI rfl rfl (by omega) (by omega) (by omega)) ?_
      refine wd_y 7 rfl (by kernel_rfl) rfl (y_assign rfl) ?_
      refine wd_y 8 rfl (by kernel_rfl) rfl (y_assign rfl) ?_
      refine wd_nil (by kernel_rfl) ?_
      refine w_ret ?_
      refine ⟨_, _, rfl, rfl, ?_⟩
      have e : rl u = u.length := by unfold rl; rw [if_pos (by assumption)]
      rw [e]
    ·
      refine w_skip ?_
      refine w_seq ?_
      refine w_regd mixed ?_
      refine wd_y 0 rfl (by kernel_rfl) rfl (y_move rfl) ?_
      refine wd_y 1 rfl (by kernel_rfl) rfl (y_move rfl) ?_
      refine wd_y 2 rfl (by kernel_rfl) rfl (y_sliceTo Try.underlying22 sz5 rfl rfl (h_u.c _) (by omega) (by omega)) ?_
      refine wd_y 3 rfl (by kernel_rfl) rfl (y_move rfl) ?_
      refine wd_y 4 rfl (by kernel_rfl) rfl (y_len Try.underlying22 rfl) ?_
      refine wd_y 5 rfl (by kernel_rfl) rfl (y_move rfl) ?_
      refine wd_y 6 rfl (by kernel_rfl) rfl (y_quoI rfl rfl (by omega) (by omega) (by omega)) ?_
      refine wd_y 7 rfl (by kernel_rfl) rfl (y_assign rfl) ?_
      refine wd_y 8 rfl (by kernel_rfl) rfl (y_assign rfl) ?_
      refine wd_nil (by kernel_rfl) ?_
      refine w_ret ?_
      refine ⟨_, _, rfl, rfl, ?_⟩
      have e : rl u = lp u := by unfold rl; rw [if_neg (by assumption)]
      rw [e]

end Go.Proofs.Ytdfcnalkdlifiaa
