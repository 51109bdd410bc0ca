/- Several texts of our own in one: K2, I2, E23, I3, I4, J1. -/
import Derived.Test.YtipnciohgbjjhaaGreatD4
/-! ## K2 -/
namespace Go.Proofs.YtipnciohgbjjhaaGreat
open Go Go.Eng Go.Pure
set_option linter.unusedVariables false
set_option maxRecDepth 100000 in
theorem inverseP16_ct {w : World} {A_a : Option Addr} {n_a c_a : Nat} {a : List Int} (h_a : Rd w A_a n_a c_a 1 (ints .i64 a)) (hp : a.Perm (iota a.length)) (hN : a.length ≤ 1000000) :
    Ct Tryz.prog 128 #[.slice A_a n_a c_a] w.heap.size w [] (fun v R' => ∃ (V : List Int) (A : Option Addr) (c : Nat), v = .tuple #[.slice A a.length c, .bool true] ∧ InvF a V ∧ R' = [⟨3, 1, A, a.length, c, ints .i64 V, false⟩]) := by
  obtain rfl := h_a.lenI
  refine fn2 Tryz.func128 rfl rfl rfl ?_
  have m_a := h_a.max
  refine w_seq ?_
  refine w_reg ?_
  refine wr_y rfl (y_assign rfl) ?_
  refine wr_y rfl (y_assign rfl) ?_
  refine wr_nil ?_
  refine w_seq ?_
  refine w_reg ?_
  refine wr_y rfl (y_move rfl) ?_
  refine wr_y rfl (y_len Tryz.underlying24 rfl) ?_
  refine wr_a rfl (a_makeN Tryz.underlying24 zb3 rfl rfl (by omega) (by omega) (by omega)) ?_
  rintro _ _ ⟨g_1, rfl, rfl⟩
  refine wr_rows (R1 := [⟨3, 1, (some ⟨g_1, 0, none⟩), a.length, a.length, ints .i64 (List.replicate a.length (0 : Int)), false⟩]) rfl ?_
  refine wr_as (v := .slice (some ⟨g_1, 0, none⟩) a.length a.length) rfl ?_
  refine wr_y rfl (y_assign rfl) ?_
  refine wr_nil ?_
  refine w_seq ?_
  refine w_reg ?_
  refine wr_y rfl (y_move rfl) ?_
  refine wr_y rfl (y_len Tryz.underlying24 rfl) ?_
  refine wr_a rfl (a_makeB Tryz.underlying215 zb4 rfl rfl (by omega) (by omega) (by omega)) ?_
  rintro _ _ ⟨g_2, rfl, rfl⟩
  refine wr_rows (R1 := [⟨4, 1, (some ⟨g_2, 0, none⟩), a.length, a.length, bools (List.replicate a.length false), false⟩, ⟨3, 1, (some ⟨g_1, 0, none⟩), a.length, a.length, ints .i64 (List.replicate a.length (0 : Int)), false⟩]) rfl ?_
  refine wr_as (v := .slice (some ⟨g_2, 0, none⟩) a.length a.length) rfl ?_
  refine wr_y rfl (y_assign rfl) ?_
  refine wr_nil ?_
  refine w_seq ?_
  refine w_seq ?_
  refine w_reg ?_
  refine wr_y rfl (y_move rfl) ?_
  refine wr_y rfl (y_len Tryz.underlying24 rfl) ?_
  refine wr_y rfl (y_move rfl) ?_
  refine wr_nil ?_
  refine w_block ?_
  refine w_loop3 (fun (q : Int) (V : List Int) (Bs : List Bool) => [(0, .slice A_a a.length c_a), (4, .slice (some ⟨g_1, 0, none⟩) a.length a.length), (5, .slice (some ⟨g_2, 0, none⟩) a.length a.length), (14, .slice A_a a.length c_a), (15, .int .i64 ((a.length : Nat) : Int)), (16, .int .i64 q)]) (fun (q : Int) (V : List Int) (Bs : List Bool) => [⟨4, 1, (some ⟨g_2, 0, none⟩), a.length, a.length, bools Bs, false⟩, ⟨3, 1, (some ⟨g_1, 0, none⟩), a.length, a.length, ints .i64 V, false⟩]) (fun (q : Int) (V : List Int) (Bs : List Bool) => (0 ≤ q) ∧ (q ≤ a.length) ∧ (InvI a V Bs q)) (fun (q : Int) (V : List Int) (Bs : List Bool) => (a.length - q).toNat) ?_ ?_
  ·
    exact ⟨0, List.replicate a.length (0 : Int), List.replicate a.length false, ⟨(by omega), (by omega), (invI_zero)⟩, (Sub.cons rfl (Sub.cons rfl (Sub.cons rfl (Sub.cons rfl (Sub.cons rfl (Sub.cons rfl Sub.nil)))))), fun _ h => h⟩
  intro q V Bs ⟨hq0, hq1, hI⟩
  have hVl := hI.len
  have hBl := hI.blen
  refine w_seq ?_
  refine w_reg ?_
  refine wr_y rfl (y_lt rfl rfl) ?_
  refine wr_nil ?_
  refine w_seq ?_
  refine w_if rfl (fun hc1 => ?_) (fun hc1 => ?_)
  ·
    have hfr := hI.fresh hp hq0 (by omega)
    refine w_skip ?_
    refine w_seq ?_
    refine w_block ?_
    refine w_seq ?_
    refine w_reg ?_
    refine wr_y rfl (y_move rfl) ?_
    refine wr_y rfl (y_index1 Tryz.underlying24 sz3 rfl rfl (h_a.c _) (by omega) (by omega)) ?_
    refine wr_y rfl (y_ldI Tryz.underlying3 rfl rfl (h_a.c _) (by omega) (by omega)) ?_
    refine wr_y rfl (y_assign rfl) ?_
    refine wr_y rfl (y_assign rfl) ?_
    refine wr_nil ?_
    refine w_seq ?_
    refine w_seq ?_
    refine w_reg ?_
    refine wr_y rfl (y_move rfl) ?_
    refine wr_y rfl (y_lt rfl rfl) ?_
    refine wr_y rfl (y_move rfl) ?_
    refine wr_mid 5 [(0, .slice A_a a.length c_a), (4, .slice (some ⟨g_1, 0, none⟩) a.length a.length), (5, .slice (some ⟨g_2, 0, none⟩) a.length a.length), (6, .int .i64 q), (7, .int .i64 (rd a q)), (14, .slice A_a a.length c_a), (15, .int .i64 ((a.length : Nat) : Int)), (16, .int .i64 q), (28, .bool (decide (((rd a q) < 0) ∨ (((a.length : Nat) : Int) ≤ (rd a q)))))] [⟨4, 1, (some ⟨g_2, 0, none⟩), a.length, a.length, bools Bs, false⟩, ⟨3, 1, (some ⟨g_1, 0, none⟩), a.length, a.length, ints .i64 V, false⟩] ?_ ?_
    ·
      refine wr_case 23 rfl (fun hc2 => ?_) (fun hc2 => ?_)
      ·
        refine wr_no rfl rfl rfl rfl ?_
        refine wr_no rfl rfl rfl rfl ?_
        refine wr_no rfl rfl rfl rfl ?_
        refine wr_no rfl rfl rfl rfl ?_
        refine wr_y rfl (y_pickT rfl rfl) ?_
        refine wr_nil ?_
        exact ⟨(Sub.cons rfl (Sub.cons rfl (Sub.cons rfl (Sub.cons rfl (Sub.cons rfl (Sub.cons rfl (Sub.cons rfl (Sub.cons rfl (Sub.to rfl (mb_t (by first | omega | exact ⟨fun h => ⟨(by assumption), h⟩, fun h => h.2⟩ | exact .inl (by assumption) | exact ⟨.inr, fun h => h.resolve_left (by assumption)⟩ | exact ⟨fun h => h.resolve_left (by assumption), .inr⟩ | simp [*])) Sub.nil))))))))), fun _ h => h⟩
      ·
        refine wr_yes rfl rfl ?_
        refine wr_y rfl (y_move rfl) ?_
        refine wr_yes rfl rfl ?_
        refine wr_y rfl (y_move rfl) ?_
        refine wr_yes rfl rfl ?_
        refine wr_y rfl (y_len Tryz.underlying24 rfl) ?_
        refine wr_yes rfl rfl ?_
        refine wr_y rfl (y_ge rfl rfl) ?_
        refine wr_y rfl (y_pickF rfl rfl) ?_
        refine wr_nil ?_
        exact ⟨(Sub.cons rfl (Sub.cons rfl (Sub.cons rfl (Sub.cons rfl (Sub.cons rfl (Sub.cons rfl (Sub.cons rfl (Sub.cons rfl (Sub.to rfl (mb (by first | omega | exact ⟨fun h => ⟨(by assumption), h⟩, fun h => h.2⟩ | exact .inl (by assumption) | exact ⟨.inr, fun h => h.resolve_left (by assumption)⟩ | exact ⟨fun h => h.resolve_left (by assumption), .inr⟩ | simp [*])) Sub.nil))))))))), fun _ h => h⟩
    refine wr_setF 28 rfl (by omega) ?_
    refine wr_y rfl (y_move rfl) ?_
    refine wr_yes rfl rfl ?_
    refine wr_y rfl (y_move rfl) ?_
    refine wr_yes rfl rfl ?_
    refine wr_y rfl (y_move rfl) ?_
    refine wr_yes rfl rfl ?_
    refine wr_y rfl (y_index1 Tryz.underlying215 sz4 rfl rfl (rdr 0 rfl) (by omega) (by omega)) ?_
    refine wr_yes rfl rfl ?_
    refine wr_y rfl (Yl.f (y_ldB Tryz.underlying4 rfl rfl (rdr 0 rfl) (by omega) (by omega)) (hfr.2)) ?_
    refine wr_y rfl (y_pickF rfl rfl) ?_
    refine wr_nil ?_
    refine w_false rfl ?_
    refine w_skip ?_
    refine w_reg ?_
    refine wr_y rfl (y_move rfl) ?_
    refine wr_y rfl (y_move rfl) ?_
    refine wr_y rfl (y_move rfl) ?_
    refine wr_y rfl (y_move rfl) ?_
    refine wr_y rfl (y_move rfl) ?_
    refine wr_y rfl (y_index1 Tryz.underlying24 sz3 rfl rfl (rdr 1 rfl) (by omega) (by omega)) ?_
    refine wr_n (a_storeI 1 rfl sz3 rfl rfl (by omega) (by omega)) ?_
    rintro _ _ rfl
    refine wr_rows (R1 := [⟨4, 1, (some ⟨g_2, 0, none⟩), a.length, a.length, bools Bs, false⟩, ⟨3, 1, (some ⟨g_1, 0, none⟩), a.length, a.length, ints .i64 (upd V (rd a q) q), false⟩]) rfl ?_
    refine wr_y rfl (y_index1 Tryz.underlying215 sz4 rfl rfl (rdr 0 rfl) (by omega) (by omega)) ?_
    refine wr_n (a_storeB 0 rfl sz4 rfl rfl (by omega) (by omega)) ?_
    rintro _ _ rfl
    refine wr_rows (R1 := [⟨4, 1, (some ⟨g_2, 0, none⟩), a.length, a.length, bools (updB Bs (rd a q) true), false⟩, ⟨3, 1, (some ⟨g_1, 0, none⟩), a.length, a.length, ints .i64 (upd V (rd a q) q), false⟩]) rfl ?_
    refine wr_nil ?_
    refine w_reg ?_
    refine wr_y rfl (y_addI rfl rfl (by omega)) ?_
    refine wr_y rfl (y_move rfl) ?_
    refine wr_nil ?_
    exact ⟨q + 1, upd V (rd a q) q, updB Bs (rd a q) true, ⟨(by omega), (by omega), (hI.step hp hq0 (by omega))⟩, (by omega), (Sub.cons rfl (Sub.cons rfl (Sub.cons rfl (Sub.cons rfl (Sub.cons rfl (Sub.cons rfl Sub.nil)))))), fun _ h => h⟩
  ·
    refine w_exit ?_
    refine w_seq ?_
    refine w_reg ?_
    refine wr_y rfl (y_move rfl) ?_
    refine wr_y rfl (y_assign rfl) ?_
    refine wr_y rfl (y_assign rfl) ?_
    refine wr_nil ?_
    refine w_retR (R1 := [⟨3, 1, (some ⟨g_1, 0, none⟩), a.length, a.length, ints .i64 V, false⟩]) (fun _ h => h.sel [1] (by decide) rfl) ?_
    refine ⟨_, _, rfl, rfl, ?_⟩
    have e : q = a.length := by omega
    rw [e] at hI
    exact ⟨V, _, _, rfl, hI.all, rfl⟩

set_option maxRecDepth 100000 in
theorem isP16_ct {w : World} {A_a : Option Addr} {n_a c_a : Nat} {a : List Int} (h_a : Rd w A_a n_a c_a 1 (ints .i64 a)) (hp : a.Perm (iota a.length)) (hN : a.length ≤ 1000000) :
    Ct Tryz.prog 164 #[.slice A_a n_a c_a] w.heap.size w [] (fun v R' => v = .bool true) := by
  obtain rfl := h_a.lenI
  refine fn1 Tryz.func164 rfl rfl rfl ?_
  have m_a := h_a.max
  refine w_seq ?_
  refine w_reg ?_
  refine wr_y rfl (y_assign rfl) ?_
  refine wr_nil ?_
  refine w_seq ?_
  refine w_reg ?_
  refine wr_y rfl (y_move rfl) ?_
  refine wr_a rfl (a_callF en128 rfl (Ct.fresh (fun w hw => inverseP16_ct ((h_a.c _) w hw) (by first | assumption | omega | decide) (by first | assumption | omega | decide)))) ?_
  rintro _ _ ⟨_, rfl, R1, A_1, c_2, rfl, hI_R1, rfl⟩
  refine wr_y rfl (y_move rfl) ?_
  refine wr_y rfl (y_extract rfl rfl) ?_
  refine wr_y rfl (y_extract rfl rfl) ?_
  refine wr_y rfl (y_assign rfl) ?_
  refine wr_y rfl (y_assign rfl) ?_
  refine wr_nil ?_
  refine w_seq ?_
  refine w_reg ?_
  refine wr_y rfl (y_move rfl) ?_
  refine wr_y rfl (y_assign rfl) ?_
  refine wr_nil ?_
  refine w_retR (R1 := []) (fun _ h => h.sel [] (by decide) rfl) ?_
  refine ⟨_, rfl, ?_⟩
  rfl

set_option maxRecDepth 100000 in
theorem behind17_ct {w : World} {A_rk : Option Addr} {n_rk c_rk : Nat} {rk : List Int} {i : Int} (h_rk : Rd w A_rk n_rk c_rk 1 (ints .i64 rk)) (hi : 0 ≤ i ∧ i < rk.length) :
    Ct Tryz.prog 204 #[.slice A_rk n_rk c_rk, .int .i64 i] w.heap.size w [] (fun v R' => v = .int .i64 (bhF rk i)) := by
  obtain rfl := h_rk.lenI
  refine fn1 Tryz.func204 rfl rfl rfl ?_
  have m_rk := h_rk.max
  refine w_seq ?_
  refine w_reg ?_
  refine wr_y rfl (y_assign rfl) ?_
  refine wr_nil ?_
  refine w_seq ?_
  refine w_seq ?_
  refine w_reg ?_
  refine wr_y rfl (y_move rfl) ?_
  refine wr_y rfl (y_addI rfl rfl (by omega)) ?_
  refine wr_y rfl (y_move rfl) ?_
  refine wr_y rfl (y_len Tryz.underlying24 rfl) ?_
  refine wr_y rfl (y_eq rfl rfl) ?_
  refine wr_nil ?_
  refine w_if rfl (fun hc1 => ?_) (fun hc1 => ?_)
  ·
    refine w_seq ?_
    refine w_reg ?_
    refine wr_y rfl (y_assign rfl) ?_
    refine wr_nil ?_
    refine w_ret ?_
    refine ⟨_, rfl, ?_⟩
    exact congrArg (Value.int .i64) (by unfold bhF; rw [if_pos hc1])
  ·
    refine w_skip ?_
    refine w_seq ?_
    refine w_reg ?_
    refine wr_y rfl (y_move rfl) ?_
    refine wr_y rfl (y_move rfl) ?_
    refine wr_y rfl (y_addI rfl rfl (by omega)) ?_
    refine wr_y rfl (y_index1 Tryz.underlying24 sz3 rfl rfl (h_rk.c _) (by omega) (by omega)) ?_
    refine wr_y rfl (y_ldI Tryz.underlying3 rfl rfl (h_rk.c _) (by omega) (by omega)) ?_
    refine wr_y rfl (y_assign rfl) ?_
    refine wr_nil ?_
    refine w_ret ?_
    refine ⟨_, rfl, ?_⟩
    exact congrArg (Value.int .i64) (by unfold bhF; rw [if_neg hc1])

set_option maxRecDepth 100000 in
theorem ordered17_ct {w : World} {A_u : Option Addr} {n_u c_u : Nat} {u : List Int} {A_a : Option Addr} {n_a c_a : Nat} {a : List Int} {A_rk : Option Addr} {n_rk c_rk : Nat} {rk : List Int} (h_u : Rd w A_u n_u c_u 1 (ints .u8 u)) (h_a : Rd w A_a n_a c_a 1 (ints .i64 a)) (h_rk : Rd w A_rk n_rk c_rk 1 (ints .i64 rk)) (hO : OrdR u a rk) (hN : u.length ≤ 1000000) :
    Ct Tryz.prog 129 #[.slice A_u n_u c_u, .slice A_a n_a c_a, .slice A_rk n_rk c_rk] w.heap.size w [] (fun v R' => v = .bool true) := by
  obtain rfl := h_u.lenI
  obtain rfl := h_a.lenI
  obtain rfl := h_rk.lenI
  refine fn1 Tryz.func129 rfl rfl rfl ?_
  have m_u := h_u.max
  have m_a := h_a.max
  have m_rk := h_rk.max
  refine w_seq ?_
  refine w_reg ?_
  refine wr_y rfl (y_assign rfl) ?_
  refine wr_nil ?_
  refine w_seq ?_
  refine w_seq ?_
  refine w_reg ?_
  refine wr_y rfl (y_assign rfl) ?_
  refine wr_nil ?_
  refine w_block ?_
  refine w_loop1 (fun (i : Int) => [(0, .slice A_u u.length c_u), (1, .slice A_a a.length c_a), (2, .slice A_rk rk.length c_rk), (7, .int .i64 i)]) (fun (i : Int) => []) (fun (i : Int) => (1 ≤ i) ∧ (i ≤ a.length ∨ i = 1)) (fun (i : Int) => (a.length + 1 - i).toNat) ?_ ?_
  ·
    exact ⟨1, ⟨(by omega), (by omega)⟩, (Sub.cons rfl (Sub.cons rfl (Sub.cons rfl (Sub.cons rfl Sub.nil)))), fun _ h => h⟩
  intro i ⟨hi1, hi2⟩
  have hal := hO.alen
  have hrl := hO.len
  refine w_seq ?_
  refine w_seq ?_
  refine w_reg ?_
  refine wr_y rfl (y_move rfl) ?_
  refine wr_y rfl (y_move rfl) ?_
  refine wr_y rfl (y_len Tryz.underlying24 rfl) ?_
  refine wr_y rfl (y_lt rfl rfl) ?_
  refine wr_nil ?_
  refine w_if rfl (fun hc1 => ?_) (fun hc1 => ?_)
  ·
    have hx := hO.ain (r := i - 1) (by omega) (by omega)
    have hy := hO.ain (r := i) (by omega) (by omega)
    have hno := hO.nofall hi1 (by omega)
    refine w_skip ?_
    refine w_seq ?_
    refine w_block ?_
    refine w_seq ?_
    refine w_regd mixed ?_
    refine wd_y 0 rfl (by kernel_rfl) rfl (y_move rfl) ?_
    refine wd_y 1 rfl (by kernel_rfl) rfl (y_move rfl) ?_
    refine wd_y 2 rfl (by kernel_rfl) rfl (y_subI rfl rfl (by omega)) ?_
    refine wd_y 3 rfl (by kernel_rfl) rfl (y_index1 Tryz.underlying24 sz3 rfl rfl (h_a.c _) (by omega) (by omega)) ?_
    refine wd_y 4 rfl (by kernel_rfl) rfl (y_ldI Tryz.underlying3 rfl rfl (h_a.c _) (by omega) (by omega)) ?_
    refine wd_y 5 rfl (by kernel_rfl) rfl (y_move rfl) ?_
    refine wd_y 6 rfl (by kernel_rfl) rfl (y_move rfl) ?_
    refine wd_y 7 rfl (by kernel_rfl) rfl (y_index1 Tryz.underlying24 sz3 rfl rfl (h_a.c _) (by omega) (by omega)) ?_
    refine wd_y 8 rfl (by kernel_rfl) rfl (y_ldI Tryz.underlying3 rfl rfl (h_a.c _) (by omega) (by omega)) ?_
    refine wd_y 9 rfl (by kernel_rfl) rfl (y_assign rfl) ?_
    refine wd_y 10 rfl (by kernel_rfl) rfl (y_assign rfl) ?_
    refine wd_nil (by kernel_rfl) ?_
    refine w_join0 [(0, .slice A_u u.length c_u), (1, .slice A_a a.length c_a), (2, .slice A_rk rk.length c_rk), (7, .int .i64 i), (53, .bool (decide (((rd u (rd a i)) < (rd u (rd a (i - 1)))) ∨ (((rd u (rd a (i - 1))) = (rd u (rd a i))) ∧ ((bhF rk (rd a i)) < (bhF rk (rd a (i - 1))))))))] [] ?_ ?_
    ·
      refine w_regd mixed ?_
      refine wd_y 0 rfl (by kernel_rfl) rfl (y_move rfl) ?_
      refine wd_y 1 rfl (by kernel_rfl) rfl (y_move rfl) ?_
      refine wd_y 2 rfl (by kernel_rfl) rfl (y_index1 Tryz.underlying23 sz5 rfl rfl (h_u.c _) (by omega) (by omega)) ?_
      refine wd_y 3 rfl (by kernel_rfl) rfl (y_ldI Tryz.underlying5 rfl rfl (h_u.c _) (by omega) (by omega)) ?_
      refine wd_y 4 rfl (by kernel_rfl) rfl (y_move rfl) ?_
      refine wd_y 5 rfl (by kernel_rfl) rfl (y_move rfl) ?_
      refine wd_y 6 rfl (by kernel_rfl) rfl (y_index1 Tryz.underlying23 sz5 rfl rfl (h_u.c _) (by omega) (by omega)) ?_
      refine wd_y 7 rfl (by kernel_rfl) rfl (y_ldI Tryz.underlying5 rfl rfl (h_u.c _) (by omega) (by omega)) ?_
      refine wd_y 8 rfl (by kernel_rfl) rfl (y_gt rfl rfl) ?_
      refine wd_y 9 rfl (by kernel_rfl) rfl (y_move rfl) ?_
      refine wd_case 34 rfl (fun hc2 => ?_) (fun hc2 => ?_)
      ·
        refine wd_no 10 rfl (by kernel_rfl) rfl rfl rfl rfl ?_
        refine wd_no 11 rfl (by kernel_rfl) rfl rfl rfl rfl ?_
        refine wd_no 12 rfl (by kernel_rfl) rfl rfl rfl rfl ?_
        refine wd_no 13 rfl (by kernel_rfl) rfl rfl rfl rfl ?_
        refine wd_no 14 rfl (by kernel_rfl) rfl rfl rfl rfl ?_
        refine wd_no 15 rfl (by kernel_rfl) rfl rfl rfl rfl ?_
        refine wd_no 16 rfl (by kernel_rfl) rfl rfl rfl rfl ?_
        refine wd_no 17 rfl (by kernel_rfl) rfl rfl rfl rfl ?_
        refine wd_no 18 rfl (by kernel_rfl) rfl rfl rfl rfl ?_
        refine wd_no 19 rfl (by kernel_rfl) rfl rfl rfl rfl ?_
        refine wd_nou 20 rfl (by kernel_rfl) rfl rfl rfl ?_
        refine wd_nou 21 rfl (by kernel_rfl) rfl rfl rfl ?_
        refine wd_nou 22 rfl (by kernel_rfl) rfl rfl rfl ?_
        refine wd_nou 23 rfl (by kernel_rfl) rfl rfl rfl ?_
        refine wd_nou 24 rfl (by kernel_rfl) rfl rfl rfl ?_
        refine wd_nou 25 rfl (by kernel_rfl) rfl rfl rfl ?_
        refine wd_nou 26 rfl (by kernel_rfl) rfl rfl rfl ?_
        refine wd_no 27 rfl (by kernel_rfl) rfl rfl rfl rfl ?_
        refine wd_y 28 rfl (by kernel_rfl) rfl (y_pickT rfl rfl) ?_
        refine wd_nil (by kernel_rfl) ?_
        exact ⟨(Sub.cons rfl (Sub.cons rfl (Sub.cons rfl (Sub.cons rfl (Sub.to rfl (mb_t (by first | omega | exact ⟨fun h => ⟨(by assumption), h⟩, fun h => h.2⟩ | exact .inl (by assumption) | exact ⟨.inr, fun h => h.resolve_left (by assumption)⟩ | exact ⟨fun h => h.resolve_left (by assumption), .inr⟩ | simp [*])) Sub.nil))))), fun _ h => h⟩
      ·
        refine wd_yg 10 rfl (by kernel_rfl) rfl rfl rfl (y_move rfl) ?_
        refine wd_yg 11 rfl (by kernel_rfl) rfl rfl rfl (y_move rfl) ?_
        refine wd_yg 12 rfl (by kernel_rfl) rfl rfl rfl (y_index1 Tryz.underlying23 sz5 rfl rfl (h_u.c _) (by omega) (by omega)) ?_
        refine wd_yg 13 rfl (by kernel_rfl) rfl rfl rfl (y_ldI Tryz.underlying5 rfl rfl (h_u.c _) (by omega) (by omega)) ?_
        refine wd_yg 14 rfl (by kernel_rfl) rfl rfl rfl (y_move rfl) ?_
        refine wd_yg 15 rfl (by kernel_rfl) rfl rfl rfl (y_move rfl) ?_
        refine wd_yg 16 rfl (by kernel_rfl) rfl rfl rfl (y_index1 Tryz.underlying23 sz5 rfl rfl (h_u.c _) (by omega) (by omega)) ?_
        refine wd_yg 17 rfl (by kernel_rfl) rfl rfl rfl (y_ldI Tryz.underlying5 rfl rfl (h_u.c _) (by omega) (by omega)) ?_
        refine wd_yg 18 rfl (by kernel_rfl) rfl rfl rfl (y_eq rfl rfl) ?_
        refine wd_yg 19 rfl (by kernel_rfl) rfl rfl rfl (y_move rfl) ?_
        refine wd_case 44 rfl (fun hc3 => ?_) (fun hc3 => ?_)
        ·
          refine wd_yg 20 rfl (by kernel_rfl) rfl rfl rfl (y_move rfl) ?_
          refine wd_yg 21 rfl (by kernel_rfl) rfl rfl rfl (y_move rfl) ?_
          refine wd_yg 23 rfl (by kernel_rfl) rfl rfl rfl (y_move rfl) ?_
          refine wd_yg 24 rfl (by kernel_rfl) rfl rfl rfl (y_move rfl) ?_
          refine wd_ag 22 rfl (by kernel_rfl) rfl rfl rfl (a_callF en204 rfl (Ct.quiet (fun w hw => behind17_ct ((h_rk.c _) w hw) (by omega)))) ?_
          rintro _ _ ⟨rfl, rfl⟩
          refine ⟨.inr fun _ h => h, ?_⟩
          refine wd_ag 25 rfl (by kernel_rfl) rfl rfl rfl (a_callF en204 rfl (Ct.quiet (fun w hw => behind17_ct ((h_rk.c _) w hw) (by omega)))) ?_
          rintro _ _ ⟨rfl, rfl⟩
          refine ⟨.inr fun _ h => h, ?_⟩
          refine wd_yg 26 rfl (by kernel_rfl) rfl rfl rfl (y_gt rfl rfl) ?_
          refine wd_yg 27 rfl (by kernel_rfl) rfl rfl rfl (y_pickT rfl rfl) ?_
          refine wd_y 28 rfl (by kernel_rfl) rfl (y_pickF rfl rfl) ?_
          refine wd_nil (by kernel_rfl) ?_
          exact ⟨(Sub.cons rfl (Sub.cons rfl (Sub.cons rfl (Sub.cons rfl (Sub.to rfl (mb (by first | omega | exact ⟨fun h => ⟨(by assumption), h⟩, fun h => h.2⟩ | exact .inl (by assumption) | exact ⟨.inr, fun h => h.resolve_left (by assumption)⟩ | exact ⟨fun h => h.resolve_left (by assumption), .inr⟩ | simp [*])) Sub.nil))))), fun _ h => h⟩
        ·
          refine wd_no 20 rfl (by kernel_rfl) rfl rfl rfl rfl ?_
          refine wd_no 21 rfl (by kernel_rfl) rfl rfl rfl rfl ?_
          refine wd_no 22 rfl (by kernel_rfl) rfl rfl rfl rfl ?_
          refine wd_no 23 rfl (by kernel_rfl) rfl rfl rfl rfl ?_
          refine wd_no 24 rfl (by kernel_rfl) rfl rfl rfl rfl ?_
          refine wd_no 25 rfl (by kernel_rfl) rfl rfl rfl rfl ?_
          refine wd_no 26 rfl (by kernel_rfl) rfl rfl rfl rfl ?_
          refine wd_yg 27 rfl (by kernel_rfl) rfl rfl rfl (y_pickF rfl rfl) ?_
          refine wd_y 28 rfl (by kernel_rfl) rfl (y_pickF rfl rfl) ?_
          refine wd_nil (by kernel_rfl) ?_
          exact ⟨(Sub.cons rfl (Sub.cons rfl (Sub.cons rfl (Sub.cons rfl (Sub.to rfl (mb_f (by first | omega | exact ⟨fun h => ⟨(by assumption), h⟩, fun h => h.2⟩ | exact .inl (by assumption) | exact ⟨.inr, fun h => h.resolve_left (by assumption)⟩ | exact ⟨fun h => h.resolve_left (by assumption), .inr⟩ | simp [*])) Sub.nil))))), fun _ h => h⟩
    refine w_if rfl (fun hc4 => ?_) (fun hc4 => ?_)
    ·
      refine w_seq ?_
      refine w_reg ?_
      refine wr_y rfl (y_assign rfl) ?_
      refine wr_nil ?_
      refine w_ret ?_
      refine ⟨_, rfl, ?_⟩
      exact absurd (by assumption) hno
    ·
      refine w_skip ?_
      refine w_reg ?_
      refine wr_y rfl (y_move rfl) ?_
      refine wr_y rfl (y_addI rfl rfl (by omega)) ?_
      refine wr_y rfl (y_assign rfl) ?_
      refine wr_nil ?_
      exact ⟨i + 1, ⟨(by omega), (by omega)⟩, (by omega), (Sub.cons rfl (Sub.cons rfl (Sub.cons rfl (Sub.cons rfl Sub.nil)))), fun _ h => h⟩
  ·
    refine w_exit ?_
    refine w_seq ?_
    refine w_reg ?_
    refine wr_y rfl (y_assign rfl) ?_
    refine wr_nil ?_
    refine w_ret ?_
    refine ⟨_, rfl, ?_⟩
    rfl

set_option maxRecDepth 100000 in
theorem quick17_ct {w : World} {A_u : Option Addr} {n_u c_u : Nat} {u : List Int} {A_a : Option Addr} {n_a c_a : Nat} {a : List Int} {A_rk : Option Addr} {n_rk c_rk : Nat} {rk : List Int} (h_u : Rd w A_u n_u c_u 1 (ints .u8 u)) (h_a : Rd w A_a n_a c_a 1 (ints .i64 a)) (h_rk : Rd w A_rk n_rk c_rk 1 (ints .i64 rk)) (hO : OrdR u a rk) (hN : u.length ≤ 1000000) :
    Ct Tryz.prog 130 #[.slice A_u n_u c_u, .slice A_a n_a c_a, .slice A_rk n_rk c_rk] w.heap.size w [] (fun v R' => ∃ A c, v = .slice A (a.length) c ∧ R' = [⟨3, 1, A, a.length, c, ints .i64 (lcpV u a), false⟩]) := by
  obtain rfl := h_u.lenI
  obtain rfl := h_a.lenI
  obtain rfl := h_rk.lenI
  refine fn1 Tryz.func130 rfl rfl rfl ?_
  have m_u := h_u.max
  have m_a := h_a.max
  have m_rk := h_rk.max
  have hal := hO.alen
  have hrl := hO.len
  refine w_seq ?_
  refine w_reg ?_
  refine wr_y rfl (y_assign rfl) ?_
  refine wr_nil ?_
  refine w_seq ?_
  refine w_reg ?_
  refine wr_y rfl (y_move rfl) ?_
  refine wr_y rfl (y_len Tryz.underlying24 rfl) ?_
  refine wr_a rfl (a_makeN Tryz.underlying24 zb3 rfl rfl (by omega) (by omega) (by omega)) ?_
  rintro _ _ ⟨g_1, rfl, rfl⟩
  refine wr_rows (R1 := [⟨3, 1, (some ⟨g_1, 0, none⟩), a.length, a.length, ints .i64 (List.replicate a.length (0 : Int)), false⟩]) rfl ?_
  refine wr_as (v := .slice (some ⟨g_1, 0, none⟩) a.length a.length) rfl ?_
  refine wr_y rfl (y_assign rfl) ?_
  refine wr_nil ?_
  refine w_seq ?_
  refine w_reg ?_
  refine wr_y rfl (y_assign rfl) ?_
  refine wr_nil ?_
  refine w_seq ?_
  refine w_seq ?_
  refine w_reg ?_
  refine wr_y rfl (y_move rfl) ?_
  refine wr_y rfl (y_len Tryz.underlying24 rfl) ?_
  refine wr_y rfl (y_move rfl) ?_
  refine wr_nil ?_
  refine w_block ?_
  refine w_loop3 (fun (i : Int) (n : Int) (V : List Int) => [(0, .slice A_u u.length c_u), (1, .slice A_a a.length c_a), (7, .slice (some ⟨g_1, 0, none⟩) a.length a.length), (8, .int .i64 n), (15, .slice A_rk rk.length c_rk), (16, .int .i64 ((rk.length : Nat) : Int)), (17, .int .i64 i)]) (fun (i : Int) (n : Int) (V : List Int) => [⟨3, 1, (some ⟨g_1, 0, none⟩), a.length, a.length, ints .i64 V, false⟩]) (fun (i : Int) (n : Int) (V : List Int) => (0 ≤ i) ∧ (i ≤ rk.length) ∧ (KasI u a rk V i n)) (fun (i : Int) (n : Int) (V : List Int) => (rk.length - i).toNat) ?_ ?_
  ·
    exact ⟨0, 0, List.replicate a.length (0 : Int), ⟨(by omega), (by omega), (by rw [hal]; exact kasI_zero)⟩, (Sub.cons rfl (Sub.cons rfl (Sub.cons rfl (Sub.cons rfl (Sub.cons rfl (Sub.cons rfl (Sub.cons rfl Sub.nil))))))), fun _ h => h⟩
  intro i n V ⟨hi0, hi1, hK⟩
  have hVl := hK.len
  have hKn := hK.n0
  refine w_seq ?_
  refine w_reg ?_
  refine wr_y rfl (y_lt rfl rfl) ?_
  refine wr_nil ?_
  refine w_seq ?_
  refine w_if rfl (fun hc1 => ?_) (fun hc1 => ?_)
  ·
    have hri := (hO.at_ hi0 (by omega)).1
    refine w_skip ?_
    refine w_seq ?_
    refine w_block ?_
    refine w_seq ?_
    refine w_reg ?_
    refine wr_y rfl (y_move rfl) ?_
    refine wr_y rfl (y_index1 Tryz.underlying24 sz3 rfl rfl (h_rk.c _) (by omega) (by omega)) ?_
    refine wr_y rfl (y_ldI Tryz.underlying3 rfl rfl (h_rk.c _) (by omega) (by omega)) ?_
    refine wr_y rfl (y_assign rfl) ?_
    refine wr_y rfl (y_assign rfl) ?_
    refine wr_nil ?_
    refine w_seq ?_
    refine w_seq ?_
    refine w_reg ?_
    refine wr_y rfl (y_move rfl) ?_
    refine wr_y rfl (y_eq rfl rfl) ?_
    refine wr_nil ?_
    refine w_if rfl (fun hc2 => ?_) (fun hc2 => ?_)
    ·
      refine w_seq ?_
      refine w_reg ?_
      refine wr_y rfl (y_assign rfl) ?_
      refine wr_nil ?_
      refine w_exit ?_
      refine w_reg ?_
      refine wr_y rfl (y_addI rfl rfl (by omega)) ?_
      refine wr_y rfl (y_move rfl) ?_
      refine wr_nil ?_
      exact ⟨i + 1, 0, V, ⟨(by omega), (by omega), (hK.skip hO hi0 (by omega) hc2)⟩, (by omega), (Sub.cons rfl (Sub.cons rfl (Sub.cons rfl (Sub.cons rfl (Sub.cons rfl (Sub.cons rfl (Sub.cons rfl Sub.nil))))))), fun _ h => h⟩
    ·
      have hj := hO.ain (r := rd rk i - 1) (by omega) (by omega)
      have hcb := com_bd (s := u) (i := i) (j := rd a (rd rk i - 1)) hi0 (by omega) hj.1 (by omega)
      refine w_skip ?_
      refine w_seq ?_
      refine w_reg ?_
      refine wr_y rfl (y_move rfl) ?_
      refine wr_y rfl (y_move rfl) ?_
      refine wr_y rfl (y_subI rfl rfl (by omega)) ?_
      refine wr_y rfl (y_index1 Tryz.underlying24 sz3 rfl rfl (h_a.c _) (by omega) (by omega)) ?_
      refine wr_y rfl (y_ldI Tryz.underlying3 rfl rfl (h_a.c _) (by omega) (by omega)) ?_
      refine wr_y rfl (y_assign rfl) ?_
      refine wr_nil ?_
      refine w_seq ?_
      refine w_block ?_
      refine w_loop1 (fun (m : Int) => [(0, .slice A_u u.length c_u), (1, .slice A_a a.length c_a), (7, .slice (some ⟨g_1, 0, none⟩) a.length a.length), (8, .int .i64 m), (9, .int .i64 i), (10, .int .i64 (rd rk i)), (11, .int .i64 (rd a ((rd rk i) - 1))), (15, .slice A_rk rk.length c_rk), (16, .int .i64 ((rk.length : Nat) : Int)), (17, .int .i64 i)]) (fun (m : Int) => [⟨3, 1, (some ⟨g_1, 0, none⟩), a.length, a.length, ints .i64 V, false⟩]) (fun (m : Int) => (0 ≤ m) ∧ (m.toNat ≤ com u i (rd a (rd rk i - 1)))) (fun (m : Int) => (u.length - m).toNat) ?_ ?_
      ·
        exact ⟨n, ⟨(by omega), (hK.nl (by omega) (by omega))⟩, (Sub.cons rfl (Sub.cons rfl (Sub.cons rfl (Sub.cons rfl (Sub.cons rfl (Sub.cons rfl (Sub.cons rfl (Sub.cons rfl (Sub.cons rfl (Sub.cons rfl Sub.nil)))))))))), fun _ h => h⟩
      intro m ⟨hm0, hmc⟩
      have hmb : m ≤ u.length := by omega
      refine w_seq ?_
      refine w_join0 [(0, .slice A_u u.length c_u), (1, .slice A_a a.length c_a), (7, .slice (some ⟨g_1, 0, none⟩) a.length a.length), (8, .int .i64 m), (9, .int .i64 i), (10, .int .i64 (rd rk i)), (11, .int .i64 (rd a ((rd rk i) - 1))), (15, .slice A_rk rk.length c_rk), (16, .int .i64 ((rk.length : Nat) : Int)), (17, .int .i64 i), (51, .bool (decide ((((max i (rd a ((rd rk i) - 1))) + m) < ((u.length : Nat) : Int)) ∧ ((rd u (i + m)) = (rd u ((rd a ((rd rk i) - 1)) + m))))))] [⟨3, 1, (some ⟨g_1, 0, none⟩), a.length, a.length, ints .i64 V, false⟩] ?_ ?_
      ·
        refine w_regd mixed ?_
        refine wd_y 0 rfl (by kernel_rfl) rfl (y_move rfl) ?_
        refine wd_y 1 rfl (by kernel_rfl) rfl (y_move rfl) ?_
        refine wd_y 2 rfl (by kernel_rfl) rfl (y_max rfl rfl) ?_
        refine wd_y 3 rfl (by kernel_rfl) rfl (y_move rfl) ?_
        refine wd_y 4 rfl (by kernel_rfl) rfl (y_addI rfl rfl (by omega)) ?_
        refine wd_y 5 rfl (by kernel_rfl) rfl (y_move rfl) ?_
        refine wd_y 6 rfl (by kernel_rfl) rfl (y_len Tryz.underlying23 rfl) ?_
        refine wd_y 7 rfl (by kernel_rfl) rfl (y_lt rfl rfl) ?_
        refine wd_y 8 rfl (by kernel_rfl) rfl (y_move rfl) ?_
        refine wd_case 37 rfl (fun hc3 => ?_) (fun hc3 => ?_)
        ·
          refine wd_yg 9 rfl (by kernel_rfl) rfl rfl rfl (y_move rfl) ?_
          refine wd_yg 10 rfl (by kernel_rfl) rfl rfl rfl (y_move rfl) ?_
          refine wd_yg 11 rfl (by kernel_rfl) rfl rfl rfl (y_move rfl) ?_
          refine wd_yg 12 rfl (by kernel_rfl) rfl rfl rfl (y_addI rfl rfl (by omega)) ?_
          refine wd_yg 13 rfl (by kernel_rfl) rfl rfl rfl (y_index1 Tryz.underlying23 sz5 rfl rfl (h_u.c _) (by omega) (by omega)) ?_
          refine wd_yg 14 rfl (by kernel_rfl) rfl rfl rfl (y_ldI Tryz.underlying5 rfl rfl (h_u.c _) (by omega) (by omega)) ?_
          refine wd_yg 15 rfl (by kernel_rfl) rfl rfl rfl (y_move rfl) ?_
          refine wd_yg 16 rfl (by kernel_rfl) rfl rfl rfl (y_move rfl) ?_
          refine wd_yg 17 rfl (by kernel_rfl) rfl rfl rfl (y_move rfl) ?_
          refine wd_yg 18 rfl (by kernel_rfl) rfl rfl rfl (y_addI rfl rfl (by omega)) ?_
          refine wd_yg 19 rfl (by kernel_rfl) rfl rfl rfl (y_index1 Tryz.underlying23 sz5 rfl rfl (h_u.c _) (by omega) (by omega)) ?_
          refine wd_yg 20 rfl (by kernel_rfl) rfl rfl rfl (y_ldI Tryz.underlying5 rfl rfl (h_u.c _) (by omega) (by omega)) ?_
          refine wd_yg 21 rfl (by kernel_rfl) rfl rfl rfl (y_eq rfl rfl) ?_
          refine wd_y 22 rfl (by kernel_rfl) rfl (y_pickT rfl rfl) ?_
          refine wd_nil (by kernel_rfl) ?_
          exact ⟨(Sub.cons rfl (Sub.cons rfl (Sub.cons rfl (Sub.cons rfl (Sub.cons rfl (Sub.cons rfl (Sub.cons rfl (Sub.cons rfl (Sub.cons rfl (Sub.cons rfl (Sub.to rfl (mb (by first | omega | exact ⟨fun h => ⟨(by assumption), h⟩, fun h => h.2⟩ | exact .inl (by assumption) | exact ⟨.inr, fun h => h.resolve_left (by assumption)⟩ | exact ⟨fun h => h.resolve_left (by assumption), .inr⟩ | simp [*])) Sub.nil))))))))))), fun _ h => h⟩
        ·
          refine wd_no 9 rfl (by kernel_rfl) rfl rfl rfl rfl ?_
          refine wd_no 10 rfl (by kernel_rfl) rfl rfl rfl rfl ?_
          refine wd_no 11 rfl (by kernel_rfl) rfl rfl rfl rfl ?_
          refine wd_no 12 rfl (by kernel_rfl) rfl rfl rfl rfl ?_
          refine wd_no 13 rfl (by kernel_rfl) rfl rfl rfl rfl ?_
          refine wd_no 14 rfl (by kernel_rfl) rfl rfl rfl rfl ?_
          refine wd_no 15 rfl (by kernel_rfl) rfl rfl rfl rfl ?_
          refine wd_no 16 rfl (by kernel_rfl) rfl rfl rfl rfl ?_
          refine wd_no 17 rfl (by kernel_rfl) rfl rfl rfl rfl ?_
          refine wd_no 18 rfl (by kernel_rfl) rfl rfl rfl rfl ?_
          refine wd_no 19 rfl (by kernel_rfl) rfl rfl rfl rfl ?_
          refine wd_no 20 rfl (by kernel_rfl) rfl rfl rfl rfl ?_
          refine wd_no 21 rfl (by kernel_rfl) rfl rfl rfl rfl ?_
          refine wd_y 22 rfl (by kernel_rfl) rfl (y_pickF rfl rfl) ?_
          refine wd_nil (by kernel_rfl) ?_
          exact ⟨(Sub.cons rfl (Sub.cons rfl (Sub.cons rfl (Sub.cons rfl (Sub.cons rfl (Sub.cons rfl (Sub.cons rfl (Sub.cons rfl (Sub.cons rfl (Sub.cons rfl (Sub.to rfl (mb_f (by first | omega | exact ⟨fun h => ⟨(by assumption), h⟩, fun h => h.2⟩ | exact .inl (by assumption) | exact ⟨.inr, fun h => h.resolve_left (by assumption)⟩ | exact ⟨fun h => h.resolve_left (by assumption), .inr⟩ | simp [*])) Sub.nil))))))))))), fun _ h => h⟩
      refine w_if rfl (fun hc4 => ?_) (fun hc4 => ?_)
      ·
        refine w_skip ?_
        refine w_block ?_
        refine w_reg ?_
        refine wr_y rfl (y_move rfl) ?_
        refine wr_y rfl (y_addI rfl rfl (by omega)) ?_
        refine wr_y rfl (y_assign rfl) ?_
        refine wr_nil ?_
        exact ⟨m + 1, ⟨(by omega), (com_up hi0 hj.1 hm0 hmc (by assumption))⟩, (by omega), (Sub.cons rfl (Sub.cons rfl (Sub.cons rfl (Sub.cons rfl (Sub.cons rfl (Sub.cons rfl (Sub.cons rfl (Sub.cons rfl (Sub.cons rfl (Sub.cons rfl Sub.nil)))))))))), fun _ h => h⟩
      ·
        have hme := com_stop hi0 hj.1 hm0 hmc (by assumption)
        refine w_exit ?_
        refine w_seq ?_
        refine w_reg ?_
        refine wr_y rfl (y_move rfl) ?_
        refine wr_y rfl (y_move rfl) ?_
        refine wr_y rfl (y_move rfl) ?_
        refine wr_y rfl (y_index1 Tryz.underlying24 sz3 rfl rfl (rdr 0 rfl) (by omega) (by omega)) ?_
        refine wr_n (a_storeI 0 rfl sz3 rfl rfl (by omega) (by omega)) ?_
        rintro _ _ rfl
        refine wr_rows (R1 := [⟨3, 1, (some ⟨g_1, 0, none⟩), a.length, a.length, ints .i64 (upd V (rd rk i) m), false⟩]) rfl ?_
        refine wr_nil ?_
        refine w_reg ?_
        refine wr_y rfl (y_move rfl) ?_
        refine wr_y rfl (y_subI rfl rfl (by omega)) ?_
        refine wr_y rfl (y_max rfl rfl) ?_
        refine wr_y rfl (y_assign rfl) ?_
        refine wr_nil ?_
        refine w_reg ?_
        refine wr_y rfl (y_addI rfl rfl (by omega)) ?_
        refine wr_y rfl (y_move rfl) ?_
        refine wr_nil ?_
        exact ⟨i + 1, max (m - 1) 0, upd V (rd rk i) m, ⟨(by omega), (by omega), (hK.put hO hi0 (by omega) hc2 hme)⟩, (by omega), (Sub.cons rfl (Sub.cons rfl (Sub.cons rfl (Sub.cons rfl (Sub.cons rfl (Sub.cons rfl (Sub.cons rfl Sub.nil))))))), fun _ h => h⟩
  ·
    refine w_exit ?_
    refine w_seq ?_
    refine w_reg ?_
    refine wr_y rfl (y_move rfl) ?_
    refine wr_y rfl (y_assign rfl) ?_
    refine wr_nil ?_
    refine w_retR (R1 := [⟨3, 1, (some ⟨g_1, 0, none⟩), a.length, a.length, ints .i64 V, false⟩]) (fun _ h => h.sel [0] (by decide) rfl) ?_
    refine ⟨_, rfl, ?_⟩
    have e : i = u.length := by omega
    rw [e] at hK
    obtain rfl := hK.done hO
    exact ⟨_, _, rfl, rfl⟩

set_option maxRecDepth 100000 in
theorem lcp17_ct {w : World} {A_u : Option Addr} {n_u c_u : Nat} {u : List Int} {A_a : Option Addr} {n_a c_a : Nat} {a : List Int} (h_u : Rd w A_u n_u c_u 1 (ints .u8 u)) (h_a : Rd w A_a n_a c_a 1 (ints .i64 a)) (hap : a.Perm (iota u.length)) (has : a.Pairwise (ordE u)) (hN : u.length ≤ 1000000) :
    Ct Tryz.prog 69 #[.slice A_u n_u c_u, .slice A_a n_a c_a] w.heap.size w [] (fun v R' => ∃ A c, v = .tuple #[.slice A a.length c, .bool true] ∧ R' = [⟨3, 1, A, a.length, c, ints .i64 (lcpV u a), false⟩]) := by
  obtain rfl := h_u.lenI
  obtain rfl := h_a.lenI
  refine fn2 Tryz.func69 rfl rfl rfl ?_
  have m_u := h_u.max
  have m_a := h_a.max
  have hal : a.length = u.length := by rw [hap.length_eq, iota_len]
  refine w_seq ?_
  refine w_reg ?_
  refine wr_y rfl (y_assign rfl) ?_
  refine wr_y rfl (y_assign rfl) ?_
  refine wr_nil ?_
  refine w_seq ?_
  refine w_reg ?_
  refine wr_y rfl (y_move rfl) ?_
  refine wr_a rfl (a_callF en128 rfl (Ct.fresh (fun w hw => inverseP16_ct ((h_a.c _) w hw) (perm_self hap) (by omega)))) ?_
  rintro _ _ ⟨_, rfl, R1, A_1, c_2, rfl, hI_R1, rfl⟩
  refine wr_y rfl (y_move rfl) ?_
  refine wr_y rfl (y_extract rfl rfl) ?_
  refine wr_y rfl (y_extract rfl rfl) ?_
  refine wr_y rfl (y_assign rfl) ?_
  refine wr_y rfl (y_assign rfl) ?_
  refine wr_nil ?_
  refine w_seq ?_
  refine w_seq ?_
  refine w_reg ?_
  refine wr_y rfl (y_move rfl) ?_
  refine wr_y rfl (y_not rfl) ?_
  refine wr_y rfl (y_move rfl) ?_
  refine wr_yes rfl rfl ?_
  refine wr_y rfl (y_move rfl) ?_
  refine wr_yes rfl rfl ?_
  refine wr_y rfl (y_len Tryz.underlying24 rfl) ?_
  refine wr_yes rfl rfl ?_
  refine wr_y rfl (y_move rfl) ?_
  refine wr_yes rfl rfl ?_
  refine wr_y rfl (y_len Tryz.underlying23 rfl) ?_
  refine wr_yes rfl rfl ?_
  refine wr_y rfl (Yl.f (y_ne rfl rfl) (by omega)) ?_
  refine wr_y rfl (y_pickF rfl rfl) ?_
  refine wr_nil ?_
  refine w_false rfl ?_
  refine w_skip ?_
  refine w_seq ?_
  refine w_seq ?_
  refine w_reg ?_
  refine wr_y rfl (y_move rfl) ?_
  refine wr_y rfl (y_move rfl) ?_
  refine wr_y rfl (y_move rfl) ?_
  refine wr_a rfl (a_callF en129 rfl (Ct.quiet (fun w hw => ordered17_ct ((h_u.c _) w hw) ((h_a.c _) w hw) ((rdr 0 rfl) w hw) (hI_R1.ord hap has) hN))) ?_
  rintro _ _ ⟨rfl, rfl⟩
  refine wr_setT 27 rfl (trivial) ?_
  refine wr_nil ?_
  refine w_true rfl ?_
  refine w_seq ?_
  refine w_reg ?_
  refine wr_y rfl (y_move rfl) ?_
  refine wr_y rfl (y_move rfl) ?_
  refine wr_y rfl (y_move rfl) ?_
  refine wr_a rfl (a_callF en130 rfl (Ct.fresh (fun w hw => quick17_ct ((h_u.c _) w hw) ((h_a.c _) w hw) ((rdr 0 rfl) w hw) (hI_R1.ord hap has) hN))) ?_
  rintro _ _ ⟨_, rfl, A_4, c_5, rfl, rfl⟩
  refine wr_y rfl (y_assign rfl) ?_
  refine wr_y rfl (y_assign rfl) ?_
  refine wr_nil ?_
  refine w_retR (R1 := [⟨3, 1, A_4, ((a).length), c_5, ints .i64 (lcpV u a), false⟩]) (fun _ h => h.sel [0] (by decide) rfl) ?_
  refine ⟨_, _, rfl, rfl, ?_⟩
  exact ⟨_, _, rfl, rfl⟩

set_option maxRecDepth 100000 in
theorem ending4_ct {w : World} {A_u : Option Addr} {n_u c_u : Nat} {u : List Int} {i : Int} (h_u : Rd w A_u n_u c_u 1 (ints .u8 u)) :
    Ct Tryz.prog 205 #[.slice A_u n_u c_u, .int .i64 i] w.heap.size w [] (fun v R' => v = .bool (decide (0 ≤ i ∧ i ≤ u.length))) := by
  obtain rfl := h_u.lenI
  refine fn1 Tryz.func205 rfl rfl rfl ?_
  have m_u := h_u.max
  refine w_seq ?_
  refine w_reg ?_
  refine wr_y rfl (y_assign rfl) ?_
  refine wr_nil ?_
  refine w_seq ?_
  refine w_reg ?_
  refine wr_y rfl (y_move rfl) ?_
  refine wr_y rfl (y_ge rfl rfl) ?_
  refine wr_y rfl (y_move rfl) ?_
  refine wr_mid 5 [(12, .bool (decide ((0 ≤ i) ∧ (i ≤ ((u.length : Nat) : Int)))))] [] ?_ ?_
  ·
    refine wr_case 7 rfl (fun hc1 => ?_) (fun hc1 => ?_)
    ·
      refine wr_yes rfl rfl ?_
      refine wr_y rfl (y_move rfl) ?_
      refine wr_yes rfl rfl ?_
      refine wr_y rfl (y_move rfl) ?_
      refine wr_yes rfl rfl ?_
      refine wr_y rfl (y_len Tryz.underlying23 rfl) ?_
      refine wr_yes rfl rfl ?_
      refine wr_y rfl (y_le rfl rfl) ?_
      refine wr_y rfl (y_pickT rfl rfl) ?_
      refine wr_nil ?_
      exact ⟨(Sub.to rfl (mb (by first | omega | exact ⟨fun h => ⟨(by assumption), h⟩, fun h => h.2⟩ | exact .inl (by assumption) | exact ⟨.inr, fun h => h.resolve_left (by assumption)⟩ | exact ⟨fun h => h.resolve_left (by assumption), .inr⟩ | simp [*])) Sub.nil), fun _ h => h⟩
    ·
      refine wr_no rfl rfl rfl rfl ?_
      refine wr_no rfl rfl rfl rfl ?_
      refine wr_no rfl rfl rfl rfl ?_
      refine wr_no rfl rfl rfl rfl ?_
      refine wr_y rfl (y_pickF rfl rfl) ?_
      refine wr_nil ?_
      exact ⟨(Sub.to rfl (mb_f (by first | omega | exact ⟨fun h => ⟨(by assumption), h⟩, fun h => h.2⟩ | exact .inl (by assumption) | exact ⟨.inr, fun h => h.resolve_left (by assumption)⟩ | exact ⟨fun h => h.resolve_left (by assumption), .inr⟩ | simp [*])) Sub.nil), fun _ h => h⟩
  refine wr_y rfl (y_assign rfl) ?_
  refine wr_nil ?_
  refine w_ret ?_
  refine ⟨_, rfl, ?_⟩
  rfl

set_option maxRecDepth 100000 in
theorem common4_ct {w : World} {A_u : Option Addr} {n_u c_u : Nat} {u : List Int} {i : Int} {j : Int} (h_u : Rd w A_u n_u c_u 1 (ints .u8 u)) (hij : (0 ≤ i ∧ i ≤ u.length) ∧ (0 ≤ j ∧ j ≤ u.length)) (hN : u.length ≤ 1000000) :
    Ct Tryz.prog 131 #[.slice A_u n_u c_u, .int .i64 i, .int .i64 j] w.heap.size w [] (fun v R' => v = .int .i64 (com u i j : Int)) := by
  obtain rfl := h_u.lenI
  refine fn1 Tryz.func131 rfl rfl rfl ?_
  have m_u := h_u.max
  have hcb := com_bd (s := u) hij.1.1 hij.1.2 hij.2.1 hij.2.2
  refine w_seq ?_
  refine w_reg ?_
  refine wr_y rfl (y_assign rfl) ?_
  refine wr_nil ?_
  refine w_seq ?_
  refine w_seq ?_
  refine w_reg ?_
  refine wr_y rfl (y_move rfl) ?_
  refine wr_y rfl (y_move rfl) ?_
  refine wr_a rfl (a_callF en205 rfl (Ct.quiet (fun w hw => ending4_ct ((h_u.c _) w hw)))) ?_
  rintro _ _ ⟨rfl, rfl⟩
  refine wr_setT 10 rfl (by omega) ?_
  refine wr_y rfl (y_not rfl) ?_
  refine wr_y rfl (y_move rfl) ?_
  refine wr_yes rfl rfl ?_
  refine wr_y rfl (y_move rfl) ?_
  refine wr_yes rfl rfl ?_
  refine wr_y rfl (y_move rfl) ?_
  refine wr_yes rfl rfl ?_
  refine wr_a rfl (a_callF en205 rfl (Ct.quiet (fun w hw => ending4_ct ((h_u.c _) w hw)))) ?_
  rintro _ _ ⟨rfl, rfl⟩
  refine wr_setT 15 rfl (by omega) ?_
  refine wr_yes rfl rfl ?_
  refine wr_y rfl (y_not rfl) ?_
  refine wr_y rfl (y_pickF rfl rfl) ?_
  refine wr_nil ?_
  refine w_false rfl ?_
  refine w_skip ?_
  refine w_seq ?_
  refine w_reg ?_
  refine wr_y rfl (y_assign rfl) ?_
  refine wr_nil ?_
  refine w_seq ?_
  refine w_block ?_
  refine w_loop1 (fun (m : Int) => [(0, .slice A_u u.length c_u), (1, .int .i64 i), (2, .int .i64 j), (7, .int .i64 m)]) (fun (m : Int) => []) (fun (m : Int) => (0 ≤ m) ∧ (m.toNat ≤ com u i j)) (fun (m : Int) => (u.length - m).toNat) ?_ ?_
  ·
    exact ⟨0, ⟨(by omega), (Nat.zero_le _)⟩, (Sub.cons rfl (Sub.cons rfl (Sub.cons rfl (Sub.cons rfl Sub.nil)))), fun _ h => h⟩
  intro m ⟨hm0, hmc⟩
  have hmb : m ≤ u.length := by omega
  refine w_seq ?_
  refine w_join0 [(0, .slice A_u u.length c_u), (1, .int .i64 i), (2, .int .i64 j), (7, .int .i64 m), (40, .bool (decide ((((max i j) + m) < ((u.length : Nat) : Int)) ∧ ((rd u (i + m)) = (rd u (j + m))))))] [] ?_ ?_
  ·
    refine w_regd mixed ?_
    refine wd_y 0 rfl (by kernel_rfl) rfl (y_move rfl) ?_
    refine wd_y 1 rfl (by kernel_rfl) rfl (y_move rfl) ?_
    refine wd_y 2 rfl (by kernel_rfl) rfl (y_max rfl rfl) ?_
    refine wd_y 3 rfl (by kernel_rfl) rfl (y_move rfl) ?_
    refine wd_y 4 rfl (by kernel_rfl) rfl (y_addI rfl rfl (by omega)) ?_
    refine wd_y 5 rfl (by kernel_rfl) rfl (y_move rfl) ?_
    refine wd_y 6 rfl (by kernel_rfl) rfl (y_len Tryz.underlying23 rfl) ?_
    refine wd_y 7 rfl (by kernel_rfl) rfl (y_lt rfl rfl) ?_
    refine wd_y 8 rfl (by kernel_rfl) rfl (y_move rfl) ?_
    refine wd_case 26 rfl (fun hc1 => ?_) (fun hc1 => ?_)
    ·
      refine wd_yg 9 rfl (by kernel_rfl) rfl rfl rfl (y_move rfl) ?_
      refine wd_yg 10 rfl (by kernel_rfl) rfl rfl rfl (y_move rfl) ?_
      refine wd_yg 11 rfl (by kernel_rfl) rfl rfl rfl (y_move rfl) ?_
      refine wd_yg 12 rfl (by kernel_rfl) rfl rfl rfl (y_addI rfl rfl (by omega)) ?_
      refine wd_yg 13 rfl (by kernel_rfl) rfl rfl rfl (y_index1 Tryz.underlying23 sz5 rfl rfl (h_u.c _) (by omega) (by omega)) ?_
      refine wd_yg 14 rfl (by kernel_rfl) rfl rfl rfl (y_ldI Tryz.underlying5 rfl rfl (h_u.c _) (by omega) (by omega)) ?_
      refine wd_yg 15 rfl (by kernel_rfl) rfl rfl rfl (y_move rfl) ?_
      refine wd_yg 16 rfl (by kernel_rfl) rfl rfl rfl (y_move rfl) ?_
      refine wd_yg 17 rfl (by kernel_rfl) rfl rfl rfl (y_move rfl) ?_
      refine wd_yg 18 rfl (by kernel_rfl) rfl rfl rfl (y_addI rfl rfl (by omega)) ?_
      refine wd_yg 19 rfl (by kernel_rfl) rfl rfl rfl (y_index1 Tryz.underlying23 sz5 rfl rfl (h_u.c _) (by omega) (by omega)) ?_
      refine wd_yg 20 rfl (by kernel_rfl) rfl rfl rfl (y_ldI Tryz.underlying5 rfl rfl (h_u.c _) (by omega) (by omega)) ?_
      refine wd_yg 21 rfl (by kernel_rfl) rfl rfl rfl (y_eq rfl rfl) ?_
      refine wd_y 22 rfl (by kernel_rfl) rfl (y_pickT rfl rfl) ?_
      refine wd_nil (by kernel_rfl) ?_
      exact ⟨(Sub.cons rfl (Sub.cons rfl (Sub.cons rfl (Sub.cons rfl (Sub.to rfl (mb (by first | omega | exact ⟨fun h => ⟨(by assumption), h⟩, fun h => h.2⟩ | exact .inl (by assumption) | exact ⟨.inr, fun h => h.resolve_left (by assumption)⟩ | exact ⟨fun h => h.resolve_left (by assumption), .inr⟩ | simp [*])) Sub.nil))))), fun _ h => h⟩
    ·
      refine wd_no 9 rfl (by kernel_rfl) rfl rfl rfl rfl ?_
      refine wd_no 10 rfl (by kernel_rfl) rfl rfl rfl rfl ?_
      refine wd_no 11 rfl (by kernel_rfl) rfl rfl rfl rfl ?_
      refine wd_no 12 rfl (by kernel_rfl) rfl rfl rfl rfl ?_
      refine wd_no 13 rfl (by kernel_rfl) rfl rfl rfl rfl ?_
      refine wd_no 14 rfl (by kernel_rfl) rfl rfl rfl rfl ?_
      refine wd_no 15 rfl (by kernel_rfl) rfl rfl rfl rfl ?_
      refine wd_no 16 rfl (by kernel_rfl) rfl rfl rfl rfl ?_
      refine wd_no 17 rfl (by kernel_rfl) rfl rfl rfl rfl ?_
      refine wd_no 18 rfl (by kernel_rfl) rfl rfl rfl rfl ?_
      refine wd_no 19 rfl (by kernel_rfl) rfl rfl rfl rfl ?_
      refine wd_no 20 rfl (by kernel_rfl) rfl rfl rfl rfl ?_
      refine wd_no 21 rfl (by kernel_rfl) rfl rfl rfl rfl ?_
      refine wd_y 22 rfl (by kernel_rfl) rfl (y_pickF rfl rfl) ?_
      refine wd_nil (by kernel_rfl) ?_
      exact ⟨(Sub.cons rfl (Sub.cons rfl (Sub.cons rfl (Sub.cons rfl (Sub.to rfl (mb_f (by first | omega | exact ⟨fun h => ⟨(by assumption), h⟩, fun h => h.2⟩ | exact .inl (by assumption) | exact ⟨.inr, fun h => h.resolve_left (by assumption)⟩ | exact ⟨fun h => h.resolve_left (by assumption), .inr⟩ | simp [*])) Sub.nil))))), fun _ h => h⟩
  refine w_if rfl (fun hc2 => ?_) (fun hc2 => ?_)
  ·
    refine w_skip ?_
    refine w_block ?_
    refine w_reg ?_
    refine wr_y rfl (y_move rfl) ?_
    refine wr_y rfl (y_addI rfl rfl (by omega)) ?_
    refine wr_y rfl (y_assign rfl) ?_
    refine wr_nil ?_
    exact ⟨m + 1, ⟨(by omega), (com_up hij.1.1 hij.2.1 hm0 hmc (by assumption))⟩, (by omega), (Sub.cons rfl (Sub.cons rfl (Sub.cons rfl (Sub.cons rfl Sub.nil)))), fun _ h => h⟩
  ·
    refine w_exit ?_
    refine w_seq ?_
    refine w_reg ?_
    refine wr_y rfl (y_move rfl) ?_
    refine wr_y rfl (y_assign rfl) ?_
    refine wr_nil ?_
    refine w_ret ?_
    refine ⟨_, rfl, ?_⟩
    exact congrArg (Value.int .i64) (com_stop hij.1.1 hij.2.1 hm0 hmc (by assumption))

set_option maxRecDepth 100000 in
theorem ahead18_ct {w : World} {A_a : Option Addr} {n_a c_a : Nat} {a : List Int} (h_a : Rd w A_a n_a c_a 1 (ints .i64 a)) (hp : a.Perm (iota a.length)) (hN : a.length ≤ 1000000) :
    Ct Tryz.prog 206 #[.slice A_a n_a c_a] w.heap.size w [] (fun v R' => ∃ (V : List Int) (A : Option Addr) (c : Nat), v = .tuple #[.slice A a.length c, .bool true] ∧ AhF a V ∧ R' = [⟨3, 1, A, a.length, c, ints .i64 V, false⟩]) := by
  obtain rfl := h_a.lenI
  refine fn2 Tryz.func206 rfl rfl rfl ?_
  have m_a := h_a.max
  refine w_seq ?_
  refine w_reg ?_
  refine wr_y rfl (y_assign rfl) ?_
  refine wr_y rfl (y_assign rfl) ?_
  refine wr_nil ?_
  refine w_seq ?_
  refine w_seq ?_
  refine w_reg ?_
  refine wr_y rfl (y_move rfl) ?_
  refine wr_a rfl (a_callF en164 rfl (Ct.quiet (fun w hw => isP16_ct ((h_a.c _) w hw) (by first | assumption | omega | decide) (by first | assumption | omega | decide)))) ?_
  rintro _ _ ⟨rfl, rfl⟩
  refine wr_setT 9 rfl (trivial) ?_
  refine wr_y rfl (y_not rfl) ?_
  refine wr_nil ?_
  refine w_false rfl ?_
  refine w_skip ?_
  refine w_seq ?_
  refine w_reg ?_
  refine wr_y rfl (y_move rfl) ?_
  refine wr_y rfl (y_len Tryz.underlying24 rfl) ?_
  refine wr_a rfl (a_makeN Tryz.underlying24 zb3 rfl rfl (by omega) (by omega) (by omega)) ?_
  rintro _ _ ⟨g_1, rfl, rfl⟩
  refine wr_rows (R1 := [⟨3, 1, (some ⟨g_1, 0, none⟩), a.length, a.length, ints .i64 (List.replicate a.length (0 : Int)), false⟩]) rfl ?_
  refine wr_as (v := .slice (some ⟨g_1, 0, none⟩) a.length a.length) rfl ?_
  refine wr_y rfl (y_assign rfl) ?_
  refine wr_nil ?_
  refine w_seq ?_
  refine w_reg ?_
  refine wr_y rfl (y_assign rfl) ?_
  refine wr_nil ?_
  refine w_seq ?_
  refine w_seq ?_
  refine w_reg ?_
  refine wr_y rfl (y_move rfl) ?_
  refine wr_y rfl (y_len Tryz.underlying24 rfl) ?_
  refine wr_y rfl (y_move rfl) ?_
  refine wr_nil ?_
  refine w_block ?_
  refine w_loop3 (fun (q : Int) (l : Int) (V : List Int) => [(4, .slice (some ⟨g_1, 0, none⟩) a.length a.length), (5, .int .i64 l), (14, .slice A_a a.length c_a), (15, .int .i64 ((a.length : Nat) : Int)), (16, .int .i64 q)]) (fun (q : Int) (l : Int) (V : List Int) => [⟨3, 1, (some ⟨g_1, 0, none⟩), a.length, a.length, ints .i64 V, false⟩]) (fun (q : Int) (l : Int) (V : List Int) => (0 ≤ q) ∧ (q ≤ a.length) ∧ (AhI a V q l)) (fun (q : Int) (l : Int) (V : List Int) => (a.length - q).toNat) ?_ ?_
  ·
    exact ⟨0, -1, List.replicate a.length (0 : Int), ⟨(by omega), (by omega), (ahI_zero)⟩, (Sub.cons rfl (Sub.cons rfl (Sub.cons rfl (Sub.cons rfl (Sub.cons rfl Sub.nil))))), fun _ h => h⟩
  intro q l V ⟨hq0, hq1, hI⟩
  have hVl := hI.len
  refine w_seq ?_
  refine w_reg ?_
  refine wr_y rfl (y_lt rfl rfl) ?_
  refine wr_nil ?_
  refine w_seq ?_
  refine w_if rfl (fun hc1 => ?_) (fun hc1 => ?_)
  ·
    have hin := mem_iota.1 (hp.subset (rd_mem (L := a) hq0 (by omega)))
    refine w_skip ?_
    refine w_seq ?_
    refine w_block ?_
    refine w_seq ?_
    refine w_reg ?_
    refine wr_y rfl (y_index1 Tryz.underlying24 sz3 rfl rfl (h_a.c _) (by omega) (by omega)) ?_
    refine wr_y rfl (y_ldI Tryz.underlying3 rfl rfl (h_a.c _) (by omega) (by omega)) ?_
    refine wr_y rfl (y_assign rfl) ?_
    refine wr_nil ?_
    refine w_reg ?_
    refine wr_y rfl (y_move rfl) ?_
    refine wr_y rfl (y_move rfl) ?_
    refine wr_y rfl (y_move rfl) ?_
    refine wr_y rfl (y_move rfl) ?_
    refine wr_y rfl (y_index1 Tryz.underlying24 sz3 rfl rfl (rdr 0 rfl) (by omega) (by omega)) ?_
    refine wr_n (a_storeI 0 rfl sz3 rfl rfl (by omega) (by omega)) ?_
    rintro _ _ rfl
    refine wr_rows (R1 := [⟨3, 1, (some ⟨g_1, 0, none⟩), a.length, a.length, ints .i64 (upd V (rd a q) l), false⟩]) rfl ?_
    refine wr_y rfl (y_assign rfl) ?_
    refine wr_nil ?_
    refine w_reg ?_
    refine wr_y rfl (y_addI rfl rfl (by omega)) ?_
    refine wr_y rfl (y_move rfl) ?_
    refine wr_nil ?_
    exact ⟨q + 1, rd a q, upd V (rd a q) l, ⟨(by omega), (by omega), (hI.step hp hq0 (by omega))⟩, (by omega), (Sub.cons rfl (Sub.cons rfl (Sub.cons rfl (Sub.cons rfl (Sub.cons rfl Sub.nil))))), fun _ h => h⟩
  ·
    refine w_exit ?_
    refine w_seq ?_
    refine w_reg ?_
    refine wr_y rfl (y_move rfl) ?_
    refine wr_y rfl (y_assign rfl) ?_
    refine wr_y rfl (y_assign rfl) ?_
    refine wr_nil ?_
    refine w_retR (R1 := [⟨3, 1, (some ⟨g_1, 0, none⟩), a.length, a.length, ints .i64 V, false⟩]) (fun _ h => h.sel [0] (by decide) rfl) ?_
    refine ⟨_, _, rfl, rfl, ?_⟩
    have e : q = a.length := by omega
    rw [e] at hI
    exact ⟨V, _, _, rfl, hI.done, rfl⟩

set_option maxRecDepth 100000 in
theorem falls18_ct {w : World} {A_u : Option Addr} {n_u c_u : Nat} {u : List Int} {A_a : Option Addr} {n_a c_a : Nat} {a : List Int} (h_u : Rd w A_u n_u c_u 1 (ints .u8 u)) (h_a : Rd w A_a n_a c_a 1 (ints .i64 a)) (hap : a.Perm (iota u.length)) (has : a.Pairwise (ordE u)) (hN : u.length ≤ 1000000) :
    Ct Tryz.prog 207 #[.slice A_u n_u c_u, .slice A_a n_a c_a] w.heap.size w [] (fun v R' => v = .bool true) := by
  obtain rfl := h_u.lenI
  obtain rfl := h_a.lenI
  refine fn1 Tryz.func207 rfl rfl rfl ?_
  have m_u := h_u.max
  have m_a := h_a.max
  have hal : a.length = u.length := by rw [hap.length_eq, iota_len]
  refine w_seq ?_
  refine w_reg ?_
  refine wr_y rfl (y_assign rfl) ?_
  refine wr_nil ?_
  refine w_seq ?_
  refine w_reg ?_
  refine wr_y rfl (y_move rfl) ?_
  refine wr_a rfl (a_callF en128 rfl (Ct.fresh (fun w hw => inverseP16_ct ((h_a.c _) w hw) (perm_self hap) (by omega)))) ?_
  rintro _ _ ⟨_, rfl, R1, A_1, c_2, rfl, hI_R1, rfl⟩
  refine wr_y rfl (y_move rfl) ?_
  refine wr_y rfl (y_extract rfl rfl) ?_
  refine wr_y rfl (y_extract rfl rfl) ?_
  refine wr_y rfl (y_assign rfl) ?_
  refine wr_y rfl (y_assign rfl) ?_
  refine wr_nil ?_
  refine w_seq ?_
  refine w_reg ?_
  refine wr_y rfl (y_move rfl) ?_
  refine wr_a rfl (a_litI .i64 [-1] Tryz.underlying24 zs3 rfl rfl rfl) ?_
  rintro _ _ ⟨g_4, rfl, rfl⟩
  refine wr_a rfl (a_appendI 1 rfl Tryz.underlying24 zb3 rfl rfl rfl (rdr 0 rfl) (by omega)) ?_
  rintro _ _ ⟨A_5, c_6, rfl, rfl⟩
  refine wr_rows (R1 := [⟨3, 1, (some ⟨g_4, 0, none⟩), 1, 1, ints .i64 ([-1]), false⟩, ⟨3, 1, A_5, (a.length + 1), c_6, ints .i64 (R1 ++ ([-1])), false⟩]) rfl ?_
  refine wr_as (v := .slice A_5 (a.length + 1) c_6) rfl ?_
  refine wr_y rfl (y_assign rfl) ?_
  refine wr_nil ?_
  refine w_seq ?_
  refine w_seq ?_
  refine w_reg ?_
  refine wr_y rfl (y_move rfl) ?_
  refine wr_y rfl (y_len Tryz.underlying24 rfl) ?_
  refine wr_y rfl (y_move rfl) ?_
  refine wr_nil ?_
  refine w_block ?_
  refine w_loop1 (fun (i : Int) => [(0, .slice A_u u.length c_u), (1, .slice A_a a.length c_a), (5, .slice A_5 (a.length + 1) c_6), (18, .slice A_a a.length c_a), (19, .int .i64 ((a.length : Nat) : Int)), (20, .int .i64 i)]) (fun (i : Int) => [⟨3, 1, (some ⟨g_4, 0, none⟩), 1, 1, ints .i64 ([-1]), false⟩, ⟨3, 1, A_5, (a.length + 1), c_6, ints .i64 (R1 ++ ([-1])), false⟩]) (fun (i : Int) => (0 ≤ i) ∧ (i ≤ a.length ∨ i = 0)) (fun (i : Int) => (a.length + 1 - i).toNat) ?_ ?_
  ·
    exact ⟨0, ⟨(by omega), (by omega)⟩, (Sub.cons rfl (Sub.cons rfl (Sub.cons rfl (Sub.cons rfl (Sub.cons rfl (Sub.cons rfl Sub.nil)))))), fun _ h => h⟩
  intro i ⟨hi1, hi2⟩
  have hO := hI_R1.ord hap has
  have hrl := hO.len
  have hr1 : (R1 ++ [-1]).length = u.length + 1 := by rw [List.length_append, hrl]; rfl
  refine w_seq ?_
  refine w_reg ?_
  refine wr_y rfl (y_lt rfl rfl) ?_
  refine wr_nil ?_
  refine w_seq ?_
  refine w_if rfl (fun hc1 => ?_) (fun hc1 => ?_)
  ·
    refine w_skip ?_
    refine w_seq ?_
    refine w_block ?_
    refine w_seq ?_
    refine w_reg ?_
    refine wr_y rfl (y_move rfl) ?_
    refine wr_y rfl (y_index1 Tryz.underlying24 sz3 rfl rfl (h_a.c _) (by omega) (by omega)) ?_
    refine wr_y rfl (y_ldI Tryz.underlying3 rfl rfl (h_a.c _) (by omega) (by omega)) ?_
    refine wr_y rfl (y_assign rfl) ?_
    refine wr_y rfl (y_assign rfl) ?_
    refine wr_nil ?_
    refine w_seq ?_
    refine w_seq ?_
    refine w_reg ?_
    refine wr_y rfl (y_move rfl) ?_
    refine wr_y rfl (y_eq rfl rfl) ?_
    refine wr_nil ?_
    refine w_if rfl (fun hc2 => ?_) (fun hc2 => ?_)
    ·
      refine w_exit ?_
      refine w_reg ?_
      refine wr_y rfl (y_addI rfl rfl (by omega)) ?_
      refine wr_y rfl (y_move rfl) ?_
      refine wr_nil ?_
      exact ⟨i + 1, ⟨(by omega), (by omega)⟩, (by omega), (Sub.cons rfl (Sub.cons rfl (Sub.cons rfl (Sub.cons rfl (Sub.cons rfl (Sub.cons rfl Sub.nil)))))), fun _ h => h⟩
    ·
      have hx := hO.ain (r := i - 1) (by omega) (by omega)
      have hy := hO.ain (r := i) (by omega) (by omega)
      have hno := hO.nofall (r := i) (by omega) (by omega)
      rw [← bhF_app hx.1 (by omega), ← bhF_app hy.1 (by omega)] at hno
      refine w_skip ?_
      refine w_seq ?_
      refine w_reg ?_
      refine wr_y rfl (y_move rfl) ?_
      refine wr_y rfl (y_move rfl) ?_
      refine wr_y rfl (y_subI rfl rfl (by omega)) ?_
      refine wr_y rfl (y_index1 Tryz.underlying24 sz3 rfl rfl (h_a.c _) (by omega) (by omega)) ?_
      refine wr_y rfl (y_ldI Tryz.underlying3 rfl rfl (h_a.c _) (by omega) (by omega)) ?_
      refine wr_y rfl (y_assign rfl) ?_
      refine wr_nil ?_
      refine w_join0 [(0, .slice A_u u.length c_u), (1, .slice A_a a.length c_a), (5, .slice A_5 (a.length + 1) c_6), (18, .slice A_a a.length c_a), (19, .int .i64 ((a.length : Nat) : Int)), (20, .int .i64 i), (64, .bool (decide (((rd u (rd a i)) < (rd u (rd a (i - 1)))) ∨ (((rd u (rd a (i - 1))) = (rd u (rd a i))) ∧ ((rd (R1 ++ ([-1])) ((rd a i) + 1)) < (rd (R1 ++ ([-1])) ((rd a (i - 1)) + 1)))))))] [⟨3, 1, (some ⟨g_4, 0, none⟩), 1, 1, ints .i64 ([-1]), false⟩, ⟨3, 1, A_5, (a.length + 1), c_6, ints .i64 (R1 ++ ([-1])), false⟩] ?_ ?_
      ·
        refine w_regd mixed ?_
        refine wd_y 0 rfl (by kernel_rfl) rfl (y_move rfl) ?_
        refine wd_y 1 rfl (by kernel_rfl) rfl (y_move rfl) ?_
        refine wd_y 2 rfl (by kernel_rfl) rfl (y_index1 Tryz.underlying23 sz5 rfl rfl (h_u.c _) (by omega) (by omega)) ?_
        refine wd_y 3 rfl (by kernel_rfl) rfl (y_ldI Tryz.underlying5 rfl rfl (h_u.c _) (by omega) (by omega)) ?_
        refine wd_y 4 rfl (by kernel_rfl) rfl (y_move rfl) ?_
        refine wd_y 5 rfl (by kernel_rfl) rfl (y_move rfl) ?_
        refine wd_y 6 rfl (by kernel_rfl) rfl (y_index1 Tryz.underlying23 sz5 rfl rfl (h_u.c _) (by omega) (by omega)) ?_
        refine wd_y 7 rfl (by kernel_rfl) rfl (y_ldI Tryz.underlying5 rfl rfl (h_u.c _) (by omega) (by omega)) ?_
        refine wd_y 8 rfl (by kernel_rfl) rfl (y_gt rfl rfl) ?_
        refine wd_y 9 rfl (by kernel_rfl) rfl (y_move rfl) ?_
        refine wd_case 41 rfl (fun hc3 => ?_) (fun hc3 => ?_)
        ·
          refine wd_no 10 rfl (by kernel_rfl) rfl rfl rfl rfl ?_
          refine wd_no 11 rfl (by kernel_rfl) rfl rfl rfl rfl ?_
          refine wd_no 12 rfl (by kernel_rfl) rfl rfl rfl rfl ?_
          refine wd_no 13 rfl (by kernel_rfl) rfl rfl rfl rfl ?_
          refine wd_no 14 rfl (by kernel_rfl) rfl rfl rfl rfl ?_
          refine wd_no 15 rfl (by kernel_rfl) rfl rfl rfl rfl ?_
          refine wd_no 16 rfl (by kernel_rfl) rfl rfl rfl rfl ?_
          refine wd_no 17 rfl (by kernel_rfl) rfl rfl rfl rfl ?_
          refine wd_no 18 rfl (by kernel_rfl) rfl rfl rfl rfl ?_
          refine wd_no 19 rfl (by kernel_rfl) rfl rfl rfl rfl ?_
          refine wd_nou 20 rfl (by kernel_rfl) rfl rfl rfl ?_
          refine wd_nou 21 rfl (by kernel_rfl) rfl rfl rfl ?_
          refine wd_nou 22 rfl (by kernel_rfl) rfl rfl rfl ?_
          refine wd_nou 23 rfl (by kernel_rfl) rfl rfl rfl ?_
          refine wd_nou 24 rfl (by kernel_rfl) rfl rfl rfl ?_
          refine wd_nou 25 rfl (by kernel_rfl) rfl rfl rfl ?_
          refine wd_nou 26 rfl (by kernel_rfl) rfl rfl rfl ?_
          refine wd_nou 27 rfl (by kernel_rfl) rfl rfl rfl ?_
          refine wd_nou 28 rfl (by kernel_rfl) rfl rfl rfl ?_
          refine wd_nou 29 rfl (by kernel_rfl) rfl rfl rfl ?_
          refine wd_nou 30 rfl (by kernel_rfl) rfl rfl rfl ?_
          refine wd_no 31 rfl (by kernel_rfl) rfl rfl rfl rfl ?_
          refine wd_y 32 rfl (by kernel_rfl) rfl (y_pickT rfl rfl) ?_
          refine wd_nil (by kernel_rfl) ?_
          exact ⟨(Sub.cons rfl (Sub.cons rfl (Sub.cons rfl (Sub.cons rfl (Sub.cons rfl (Sub.cons rfl (Sub.to rfl (mb_t (by first | omega | exact ⟨fun h => ⟨(by assumption), h⟩, fun h => h.2⟩ | exact .inl (by assumption) | exact ⟨.inr, fun h => h.resolve_left (by assumption)⟩ | exact ⟨fun h => h.resolve_left (by assumption), .inr⟩ | simp [*])) Sub.nil))))))), fun _ h => h⟩
        ·
          refine wd_yg 10 rfl (by kernel_rfl) rfl rfl rfl (y_move rfl) ?_
          refine wd_yg 11 rfl (by kernel_rfl) rfl rfl rfl (y_move rfl) ?_
          refine wd_yg 12 rfl (by kernel_rfl) rfl rfl rfl (y_index1 Tryz.underlying23 sz5 rfl rfl (h_u.c _) (by omega) (by omega)) ?_
          refine wd_yg 13 rfl (by kernel_rfl) rfl rfl rfl (y_ldI Tryz.underlying5 rfl rfl (h_u.c _) (by omega) (by omega)) ?_
          refine wd_yg 14 rfl (by kernel_rfl) rfl rfl rfl (y_move rfl) ?_
          refine wd_yg 15 rfl (by kernel_rfl) rfl rfl rfl (y_move rfl) ?_
          refine wd_yg 16 rfl (by kernel_rfl) rfl rfl rfl (y_index1 Tryz.underlying23 sz5 rfl rfl (h_u.c _) (by omega) (by omega)) ?_
          refine wd_yg 17 rfl (by kernel_rfl) rfl rfl rfl (y_ldI Tryz.underlying5 rfl rfl (h_u.c _) (by omega) (by omega)) ?_
          refine wd_yg 18 rfl (by kernel_rfl) rfl rfl rfl (y_eq rfl rfl) ?_
          refine wd_yg 19 rfl (by kernel_rfl) rfl rfl rfl (y_move rfl) ?_
          refine wd_case 51 rfl (fun hc4 => ?_) (fun hc4 => ?_)
          ·
            refine wd_yg 20 rfl (by kernel_rfl) rfl rfl rfl (y_move rfl) ?_
            refine wd_yg 21 rfl (by kernel_rfl) rfl rfl rfl (y_move rfl) ?_
            refine wd_yg 22 rfl (by kernel_rfl) rfl rfl rfl (y_addI rfl rfl (by omega)) ?_
            refine wd_yg 23 rfl (by kernel_rfl) rfl rfl rfl (y_index1 Tryz.underlying24 sz3 rfl rfl (rdr 1 rfl) (by omega) (by omega)) ?_
            refine wd_yg 24 rfl (by kernel_rfl) rfl rfl rfl (y_ldI Tryz.underlying3 rfl rfl (rdr 1 rfl) (by omega) (by omega)) ?_
            refine wd_yg 25 rfl (by kernel_rfl) rfl rfl rfl (y_move rfl) ?_
            refine wd_yg 26 rfl (by kernel_rfl) rfl rfl rfl (y_move rfl) ?_
            refine wd_yg 27 rfl (by kernel_rfl) rfl rfl rfl (y_addI rfl rfl (by omega)) ?_
            refine wd_yg 28 rfl (by kernel_rfl) rfl rfl rfl (y_index1 Tryz.underlying24 sz3 rfl rfl (rdr 1 rfl) (by omega) (by omega)) ?_
            refine wd_yg 29 rfl (by kernel_rfl) rfl rfl rfl (y_ldI Tryz.underlying3 rfl rfl (rdr 1 rfl) (by omega) (by omega)) ?_
            refine wd_yg 30 rfl (by kernel_rfl) rfl rfl rfl (y_gt rfl rfl) ?_
            refine wd_yg 31 rfl (by kernel_rfl) rfl rfl rfl (y_pickT rfl rfl) ?_
            refine wd_y 32 rfl (by kernel_rfl) rfl (y_pickF rfl rfl) ?_
            refine wd_nil (by kernel_rfl) ?_
            exact ⟨(Sub.cons rfl (Sub.cons rfl (Sub.cons rfl (Sub.cons rfl (Sub.cons rfl (Sub.cons rfl (Sub.to rfl (mb (by first | omega | exact ⟨fun h => ⟨(by assumption), h⟩, fun h => h.2⟩ | exact .inl (by assumption) | exact ⟨.inr, fun h => h.resolve_left (by assumption)⟩ | exact ⟨fun h => h.resolve_left (by assumption), .inr⟩ | simp [*])) Sub.nil))))))), fun _ h => h⟩
          ·
            refine wd_no 20 rfl (by kernel_rfl) rfl rfl rfl rfl ?_
            refine wd_no 21 rfl (by kernel_rfl) rfl rfl rfl rfl ?_
            refine wd_no 22 rfl (by kernel_rfl) rfl rfl rfl rfl ?_
            refine wd_no 23 rfl (by kernel_rfl) rfl rfl rfl rfl ?_
            refine wd_no 24 rfl (by kernel_rfl) rfl rfl rfl rfl ?_
            refine wd_no 25 rfl (by kernel_rfl) rfl rfl rfl rfl ?_
            refine wd_no 26 rfl (by kernel_rfl) rfl rfl rfl rfl ?_
            refine wd_no 27 rfl (by kernel_rfl) rfl rfl rfl rfl ?_
            refine wd_no 28 rfl (by kernel_rfl) rfl rfl rfl rfl ?_
            refine wd_no 29 rfl (by kernel_rfl) rfl rfl rfl rfl ?_
            refine wd_no 30 rfl (by kernel_rfl) rfl rfl rfl rfl ?_
            refine wd_yg 31 rfl (by kernel_rfl) rfl rfl rfl (y_pickF rfl rfl) ?_
            refine wd_y 32 rfl (by kernel_rfl) rfl (y_pickF rfl rfl) ?_
            refine wd_nil (by kernel_rfl) ?_
            exact ⟨(Sub.cons rfl (Sub.cons rfl (Sub.cons rfl (Sub.cons rfl (Sub.cons rfl (Sub.cons rfl (Sub.to rfl (mb_f (by first | omega | exact ⟨fun h => ⟨(by assumption), h⟩, fun h => h.2⟩ | exact .inl (by assumption) | exact ⟨.inr, fun h => h.resolve_left (by assumption)⟩ | exact ⟨fun h => h.resolve_left (by assumption), .inr⟩ | simp [*])) Sub.nil))))))), fun _ h => h⟩
      refine w_if rfl (fun hc5 => ?_) (fun hc5 => ?_)
      ·
        refine w_seq ?_
        refine w_reg ?_
        refine wr_y rfl (y_assign rfl) ?_
        refine wr_nil ?_
        refine w_retR (R1 := []) (fun _ h => h.sel [] (by decide) rfl) ?_
        refine ⟨_, rfl, ?_⟩
        exact absurd (by assumption) hno
      ·
        refine w_skip ?_
        refine w_reg ?_
        refine wr_y rfl (y_addI rfl rfl (by omega)) ?_
        refine wr_y rfl (y_move rfl) ?_
        refine wr_nil ?_
        exact ⟨i + 1, ⟨(by omega), (by omega)⟩, (by omega), (Sub.cons rfl (Sub.cons rfl (Sub.cons rfl (Sub.cons rfl (Sub.cons rfl (Sub.cons rfl Sub.nil)))))), fun _ h => h⟩
  ·
    refine w_exit ?_
    refine w_seq ?_
    refine w_reg ?_
    refine wr_y rfl (y_assign rfl) ?_
    refine wr_nil ?_
    refine w_retR (R1 := []) (fun _ h => h.sel [] (by decide) rfl) ?_
    refine ⟨_, rfl, ?_⟩
    rfl

set_option maxRecDepth 100000 in
theorem plcp18_ct {w : World} {A_u : Option Addr} {n_u c_u : Nat} {u : List Int} {A_a : Option Addr} {n_a c_a : Nat} {a : List Int} {rk : List Int} (h_u : Rd w A_u n_u c_u 1 (ints .u8 u)) (h_a : Rd w A_a n_a c_a 1 (ints .i64 a)) (hap : a.Perm (iota u.length)) (has : a.Pairwise (ordE u)) (hN : u.length ≤ 1000000) (hO : OrdR u a rk) :
    Ct Tryz.prog 132 #[.slice A_u n_u c_u, .slice A_a n_a c_a] w.heap.size w [] (fun v R' => ∃ (V rk : List Int) (A : Option Addr) (c : Nat), v = .tuple #[.slice A a.length c, .bool true] ∧ (OrdR u a rk ∧ V = plcpV u a rk) ∧ R' = [⟨3, 1, A, a.length, c, ints .i64 V, false⟩]) := by
  obtain rfl := h_u.lenI
  obtain rfl := h_a.lenI
  refine fn2 Tryz.func132 rfl rfl rfl ?_
  have m_u := h_u.max
  have m_a := h_a.max
  have hal : a.length = u.length := by rw [hap.length_eq, iota_len]
  refine w_seq ?_
  refine w_reg ?_
  refine wr_y rfl (y_assign rfl) ?_
  refine wr_y rfl (y_assign rfl) ?_
  refine wr_nil ?_
  refine w_seq ?_
  refine w_reg ?_
  refine wr_y rfl (y_move rfl) ?_
  refine wr_a rfl (a_callF en206 rfl (Ct.fresh (fun w hw => ahead18_ct ((h_a.c _) w hw) (perm_self hap) (by omega)))) ?_
  rintro _ _ ⟨_, rfl, H1, A_1, c_2, rfl, hI_H1, rfl⟩
  refine wr_y rfl (y_move rfl) ?_
  refine wr_y rfl (y_extract rfl rfl) ?_
  refine wr_y rfl (y_extract rfl rfl) ?_
  refine wr_y rfl (y_assign rfl) ?_
  refine wr_y rfl (y_assign rfl) ?_
  refine wr_nil ?_
  refine w_seq ?_
  refine w_seq ?_
  refine w_reg ?_
  refine wr_y rfl (y_move rfl) ?_
  refine wr_y rfl (y_not rfl) ?_
  refine wr_y rfl (y_move rfl) ?_
  refine wr_yes rfl rfl ?_
  refine wr_y rfl (y_move rfl) ?_
  refine wr_yes rfl rfl ?_
  refine wr_y rfl (y_len Tryz.underlying24 rfl) ?_
  refine wr_yes rfl rfl ?_
  refine wr_y rfl (y_move rfl) ?_
  refine wr_yes rfl rfl ?_
  refine wr_y rfl (y_len Tryz.underlying23 rfl) ?_
  refine wr_yes rfl rfl ?_
  refine wr_y rfl (Yl.f (y_ne rfl rfl) (by omega)) ?_
  refine wr_y rfl (y_pickF rfl rfl) ?_
  refine wr_nil ?_
  refine w_false rfl ?_
  refine w_skip ?_
  refine w_seq ?_
  refine w_reg ?_
  refine wr_y rfl (y_move rfl) ?_
  refine wr_y rfl (y_move rfl) ?_
  refine wr_a rfl (a_callF en207 rfl (Ct.quiet (fun w hw => falls18_ct ((h_u.c _) w hw) ((h_a.c _) w hw) hap has hN))) ?_
  rintro _ _ ⟨rfl, rfl⟩
  refine wr_setT 29 rfl (trivial) ?_
  refine wr_y rfl (y_assign rfl) ?_
  refine wr_nil ?_
  refine w_seq ?_
  refine w_reg ?_
  refine wr_y rfl (y_move rfl) ?_
  refine wr_y rfl (y_len Tryz.underlying24 rfl) ?_
  refine wr_a rfl (a_makeN Tryz.underlying24 zb3 rfl rfl (by omega) (by omega) (by omega)) ?_
  rintro _ _ ⟨g_4, rfl, rfl⟩
  refine wr_rows (R1 := [⟨3, 1, (some ⟨g_4, 0, none⟩), a.length, a.length, ints .i64 (List.replicate a.length (0 : Int)), false⟩, ⟨3, 1, A_1, a.length, c_2, ints .i64 H1, false⟩]) rfl ?_
  refine wr_as (v := .slice (some ⟨g_4, 0, none⟩) a.length a.length) rfl ?_
  refine wr_y rfl (y_assign rfl) ?_
  refine wr_nil ?_
  refine w_seq ?_
  refine w_reg ?_
  refine wr_y rfl (y_assign rfl) ?_
  refine wr_nil ?_
  refine w_seq ?_
  refine w_seq ?_
  refine w_reg ?_
  refine wr_y rfl (y_move rfl) ?_
  refine wr_y rfl (y_len Tryz.underlying24 rfl) ?_
  refine wr_y rfl (y_move rfl) ?_
  refine wr_nil ?_
  refine w_block ?_
  refine w_loop3 (fun (i : Int) (n : Int) (V : List Int) => [(0, .slice A_u u.length c_u), (8, .bool true), (9, .slice (some ⟨g_4, 0, none⟩) a.length a.length), (10, .int .i64 n), (33, .slice A_1 a.length c_2), (34, .int .i64 ((a.length : Nat) : Int)), (35, .int .i64 i)]) (fun (i : Int) (n : Int) (V : List Int) => [⟨3, 1, (some ⟨g_4, 0, none⟩), a.length, a.length, ints .i64 V, false⟩, ⟨3, 1, A_1, a.length, c_2, ints .i64 H1, false⟩]) (fun (i : Int) (n : Int) (V : List Int) => (0 ≤ i) ∧ (i ≤ u.length) ∧ (n ≤ u.length) ∧ (PlI u a rk V i n)) (fun (i : Int) (n : Int) (V : List Int) => (u.length - i).toNat) ?_ ?_
  ·
    exact ⟨0, 0, List.replicate a.length (0 : Int), ⟨(by omega), (by omega), (by omega), (by rw [hal]; exact plI_zero)⟩, (Sub.cons rfl (Sub.cons rfl (Sub.cons rfl (Sub.cons rfl (Sub.cons rfl (Sub.cons rfl (Sub.cons rfl Sub.nil))))))), fun _ h => h⟩
  intro i n V ⟨hi0, hi1, hn1, hK⟩
  have hVl := hK.len
  have hKn := hK.n0
  refine w_seq ?_
  refine w_reg ?_
  refine wr_y rfl (y_lt rfl rfl) ?_
  refine wr_nil ?_
  refine w_seq ?_
  refine w_if rfl (fun hc1 => ?_) (fun hc1 => ?_)
  ·
    have hat := hI_H1.at_ hO hi0 (show i < u.length by omega)
    have hri := hO.at_ hi0 (show i < u.length by omega)
    refine w_skip ?_
    refine w_seq ?_
    refine w_block ?_
    refine w_seq ?_
    refine w_reg ?_
    refine wr_y rfl (y_move rfl) ?_
    refine wr_y rfl (y_index1 Tryz.underlying24 sz3 rfl rfl (rdr 1 rfl) (by omega) (by omega)) ?_
    refine wr_y rfl (y_ldI Tryz.underlying3 rfl rfl (rdr 1 rfl) (by omega) (by omega)) ?_
    refine wr_y rfl (y_assign rfl) ?_
    refine wr_y rfl (y_assign rfl) ?_
    refine wr_nil ?_
    refine w_seq ?_
    refine w_reg ?_
    refine wr_y rfl (y_move rfl) ?_
    refine wr_y rfl (y_subI rfl rfl (by omega)) ?_
    refine wr_y rfl (y_max rfl rfl) ?_
    refine wr_y rfl (y_assign rfl) ?_
    refine wr_nil ?_
    refine w_seq ?_
    refine w_block ?_
    refine w_seq ?_
    refine w_reg ?_
    refine wr_y rfl (y_move rfl) ?_
    refine wr_y rfl (y_eq rfl rfl) ?_
    refine wr_y rfl (y_assign rfl) ?_
    refine wr_nil ?_
    refine w_if rfl (fun hc2 => ?_) (fun hc2 => ?_)
    ·
      have hz : rd rk i = 0 := by
        rcases Int.lt_or_le 0 (rd rk i) with g | g
        · rw [if_neg (by omega)] at hat
          have := hO.ain (r := rd rk i - 1) (by omega) (by omega)
          omega
        · omega
      refine w_reg ?_
      refine wr_y rfl (y_assign rfl) ?_
      refine wr_nil ?_
      refine w_reg ?_
      refine wr_y rfl (y_move rfl) ?_
      refine wr_y rfl (y_move rfl) ?_
      refine wr_y rfl (y_move rfl) ?_
      refine wr_y rfl (y_index1 Tryz.underlying24 sz3 rfl rfl (rdr 0 rfl) (by omega) (by omega)) ?_
      refine wr_n (a_storeI 0 rfl sz3 rfl rfl (by omega) (by omega)) ?_
      rintro _ _ rfl
      refine wr_rows (R1 := [⟨3, 1, (some ⟨g_4, 0, none⟩), a.length, a.length, ints .i64 (upd V i 0), false⟩, ⟨3, 1, A_1, a.length, c_2, ints .i64 H1, false⟩]) rfl ?_
      refine wr_nil ?_
      refine w_reg ?_
      refine wr_y rfl (y_addI rfl rfl (by omega)) ?_
      refine wr_y rfl (y_move rfl) ?_
      refine wr_nil ?_
      exact ⟨i + 1, 0, upd V i 0, ⟨(by omega), (by omega), (by omega), (hK.zero hi0 (by omega) hz)⟩, (by omega), (Sub.cons rfl (Sub.cons rfl (Sub.cons rfl (Sub.cons rfl (Sub.cons rfl (Sub.cons rfl (Sub.cons rfl Sub.nil))))))), fun _ h => h⟩
    ·
      have hnz : rd rk i ≠ 0 := fun g => by rw [if_pos g] at hat; exact hc2 hat
      rw [if_neg hnz] at hat
      have hmo := hK.more hO hi0 (show i < u.length by omega) hnz hat
      have hjn := hO.ain (r := rd rk i - 1) (by omega) (by omega)
      rw [← hat] at hjn
      have hcb := com_bd (s := u) (i := i) (j := rd H1 i) hi0 (by omega) hjn.1 (by omega)
      have hcb2 := com_bd (s := u) (i := i + max (n - 1) 0) (j := rd H1 i + max (n - 1) 0) (by omega) (by omega) (by omega) (by omega)
      refine w_seq ?_
      refine w_reg ?_
      refine wr_y rfl (y_move rfl) ?_
      refine wr_y rfl (y_assign rfl) ?_
      refine wr_nil ?_
      refine w_true rfl ?_
      refine w_reg ?_
      refine wr_y rfl (y_move rfl) ?_
      refine wr_y rfl (y_move rfl) ?_
      refine wr_y rfl (y_move rfl) ?_
      refine wr_y rfl (y_move rfl) ?_
      refine wr_y rfl (y_addI rfl rfl (by omega)) ?_
      refine wr_y rfl (y_move rfl) ?_
      refine wr_y rfl (y_move rfl) ?_
      refine wr_y rfl (y_addI rfl rfl (by omega)) ?_
      refine wr_a rfl (a_callF en131 rfl (Ct.quiet (fun w hw => common4_ct ((h_u.c _) w hw) (by omega) hN))) ?_
      rintro _ _ ⟨rfl, rfl⟩
      refine wr_y rfl (y_addI rfl rfl (by omega)) ?_
      refine wr_y rfl (y_assign rfl) ?_
      refine wr_nil ?_
      refine w_reg ?_
      refine wr_y rfl (y_move rfl) ?_
      refine wr_y rfl (y_move rfl) ?_
      refine wr_y rfl (y_move rfl) ?_
      refine wr_y rfl (y_index1 Tryz.underlying24 sz3 rfl rfl (rdr 0 rfl) (by omega) (by omega)) ?_
      refine wr_n (a_storeI 0 rfl sz3 rfl rfl (by omega) (by omega)) ?_
      rintro _ _ rfl
      refine wr_rows (R1 := [⟨3, 1, (some ⟨g_4, 0, none⟩), a.length, a.length, ints .i64 (upd V i ((max (n - 1) 0) + (com u (i + (max (n - 1) 0)) ((rd H1 i) + (max (n - 1) 0)) : Int))), false⟩, ⟨3, 1, A_1, a.length, c_2, ints .i64 H1, false⟩]) rfl ?_
      refine wr_nil ?_
      refine w_reg ?_
      refine wr_y rfl (y_addI rfl rfl (by omega)) ?_
      refine wr_y rfl (y_move rfl) ?_
      refine wr_nil ?_
      exact ⟨i + 1, (max (n - 1) 0) + (com u (i + (max (n - 1) 0)) ((rd H1 i) + (max (n - 1) 0)) : Int), upd V i ((max (n - 1) 0) + (com u (i + (max (n - 1) 0)) ((rd H1 i) + (max (n - 1) 0)) : Int)), ⟨(by omega), (by omega), (by omega), (hmo.2)⟩, (by omega), (Sub.cons rfl (Sub.cons rfl (Sub.cons rfl (Sub.cons rfl (Sub.cons rfl (Sub.cons rfl (Sub.cons rfl Sub.nil))))))), fun _ h => h⟩
  ·
    refine w_exit ?_
    refine w_seq ?_
    refine w_reg ?_
    refine wr_y rfl (y_move rfl) ?_
    refine wr_y rfl (y_assign rfl) ?_
    refine wr_y rfl (y_assign rfl) ?_
    refine wr_nil ?_
    refine w_retR (R1 := [⟨3, 1, (some ⟨g_4, 0, none⟩), a.length, a.length, ints .i64 V, false⟩]) (fun _ h => h.sel [0] (by decide) rfl) ?_
    refine ⟨_, _, rfl, rfl, ?_⟩
    have e : i = u.length := by omega
    rw [e] at hK
    exact ⟨V, rk, _, _, rfl, ⟨hO, hK.done⟩, rfl⟩

theorem ordR_exists {u a : List Int} (hap : a.Perm (iota u.length)) (has : a.Pairwise (ordE u)) : ∃ rk, OrdR u a rk := by
  have hl : a.length = u.length := by rw [hap.length_eq, iota_len]
  have hnd : a.Nodup := hap.symm.nodup (iota_nodup _)
  have hin : ∀ r : Int, 0 ≤ r → r < u.length → 0 ≤ rd a r ∧ rd a r < u.length := fun r h0 h1 => mem_iota.1 (hap.subset (rd_mem h0 (by omega)))
  refine ⟨(List.range u.length).map fun i : Nat => (((List.range u.length).findIdx fun r : Nat => decide (rd a r = i) : Nat) : Int), hap, has, by simp, fun r r0 hr => ?_⟩
  have hi := hin r r0 hr
  rw [rd_range hi.1 (by omega)]
  have e : (List.range u.length).findIdx (fun q : Nat => decide (rd a q = ((rd a r).toNat : Int))) = r.toNat := by
    have hlt : r.toNat < (List.range u.length).length := by rw [List.length_range]; omega
    refine (List.findIdx_eq hlt).2 ⟨?_, fun q hq => ?_⟩
    · simp only [List.getElem_range, decide_eq_true_eq]
      rw [show ((r.toNat : Nat) : Int) = r by omega]
      omega
    · simp only [List.getElem_range, decide_eq_false_iff_not]
      intro g
      have := rd_inj hnd (i := (q : Int)) (j := r) (by omega) (by omega) r0 (by omega) (by omega)
      omega
  rw [e]
  omega
set_option maxRecDepth 100000 in
theorem lcp18_ct {w : World} {A_u : Option Addr} {n_u c_u : Nat} {u : List Int} {A_a : Option Addr} {n_a c_a : Nat} {a : List Int} (h_u : Rd w A_u n_u c_u 1 (ints .u8 u)) (h_a : Rd w A_a n_a c_a 1 (ints .i64 a)) (hap : a.Perm (iota u.length)) (has : a.Pairwise (ordE u)) (hN : u.length ≤ 1000000) :
    Ct Tryz.prog 70 #[.slice A_u n_u c_u, .slice A_a n_a c_a] w.heap.size w [] (fun v R' => ∃ A c, v = .tuple #[.slice A a.length c, .bool true] ∧ R' = [⟨3, 1, A, a.length, c, ints .i64 (lcpV u a), false⟩]) := by
  obtain rfl := h_u.lenI
  obtain rfl := h_a.lenI
  refine fn2 Tryz.func70 rfl rfl rfl ?_
  have m_u := h_u.max
  have m_a := h_a.max
  have hal : a.length = u.length := by rw [hap.length_eq, iota_len]
  obtain ⟨rk, hO⟩ := ordR_exists hap has
  refine w_seq ?_
  refine w_reg ?_
  refine wr_y rfl (y_assign rfl) ?_
  refine wr_y rfl (y_assign rfl) ?_
  refine wr_nil ?_
  refine w_seq ?_
  refine w_reg ?_
  refine wr_y rfl (y_move rfl) ?_
  refine wr_y rfl (y_move rfl) ?_
  refine wr_a rfl (a_callF en132 rfl (Ct.fresh (fun w hw => plcp18_ct ((h_u.c _) w hw) ((h_a.c _) w hw) hap has hN hO))) ?_
  rintro _ _ ⟨_, rfl, P1, rk1, A_1, c_2, rfl, ⟨hOk, hP1⟩, rfl⟩
  refine wr_y rfl (y_move rfl) ?_
  refine wr_y rfl (y_extract rfl rfl) ?_
  refine wr_y rfl (y_extract rfl rfl) ?_
  refine wr_y rfl (y_assign rfl) ?_
  refine wr_y rfl (y_assign rfl) ?_
  refine wr_nil ?_
  refine w_seq ?_
  refine w_seq ?_
  refine w_reg ?_
  refine wr_y rfl (y_move rfl) ?_
  refine wr_y rfl (y_not rfl) ?_
  refine wr_nil ?_
  refine w_false rfl ?_
  refine w_skip ?_
  refine w_seq ?_
  refine w_reg ?_
  refine wr_y rfl (y_move rfl) ?_
  refine wr_y rfl (y_len Tryz.underlying24 rfl) ?_
  refine wr_a rfl (a_makeN Tryz.underlying24 zb3 rfl rfl (by omega) (by omega) (by omega)) ?_
  rintro _ _ ⟨g_4, rfl, rfl⟩
  refine wr_rows (R1 := [⟨3, 1, (some ⟨g_4, 0, none⟩), a.length, a.length, ints .i64 (List.replicate a.length (0 : Int)), false⟩, ⟨3, 1, A_1, a.length, c_2, ints .i64 P1, false⟩]) rfl ?_
  refine wr_as (v := .slice (some ⟨g_4, 0, none⟩) a.length a.length) rfl ?_
  refine wr_y rfl (y_assign rfl) ?_
  refine wr_nil ?_
  refine w_seq ?_
  refine w_seq ?_
  refine w_reg ?_
  refine wr_y rfl (y_move rfl) ?_
  refine wr_y rfl (y_len Tryz.underlying24 rfl) ?_
  refine wr_y rfl (y_move rfl) ?_
  refine wr_nil ?_
  refine w_block ?_
  refine w_loop2 (fun (i : Int) (V : List Int) => [(6, .slice A_1 a.length c_2), (8, .slice (some ⟨g_4, 0, none⟩) a.length a.length), (22, .slice A_a a.length c_a), (23, .int .i64 ((a.length : Nat) : Int)), (24, .int .i64 i)]) (fun (i : Int) (V : List Int) => [⟨3, 1, (some ⟨g_4, 0, none⟩), a.length, a.length, ints .i64 V, false⟩, ⟨3, 1, A_1, a.length, c_2, ints .i64 P1, false⟩]) (fun (i : Int) (V : List Int) => (0 ≤ i) ∧ (i ≤ a.length) ∧ (V.length = a.length) ∧ (∀ j : Int, 0 ≤ j → j < i → rd V j = rd P1 (rd a j))) (fun (i : Int) (V : List Int) => (a.length - i).toNat) ?_ ?_
  ·
    exact ⟨0, List.replicate a.length (0 : Int), ⟨(by omega), (by omega), (by rw [List.length_replicate]), (fun j h1 h2 => by omega)⟩, (Sub.cons rfl (Sub.cons rfl (Sub.cons rfl (Sub.cons rfl (Sub.cons rfl Sub.nil))))), fun _ h => h⟩
  intro i V ⟨hi0, hi1, hVl, hV⟩
  refine w_seq ?_
  refine w_reg ?_
  refine wr_y rfl (y_lt rfl rfl) ?_
  refine wr_nil ?_
  refine w_seq ?_
  refine w_if rfl (fun hc1 => ?_) (fun hc1 => ?_)
  ·
    have hin := hO.ain hi0 (show i < u.length by omega)
    have hPl : P1.length = u.length := by rw [hP1, plcpV_len]
    refine w_skip ?_
    refine w_seq ?_
    refine w_block ?_
    refine w_seq ?_
    refine w_reg ?_
    refine wr_y rfl (y_move rfl) ?_
    refine wr_y rfl (y_index1 Tryz.underlying24 sz3 rfl rfl (h_a.c _) (by omega) (by omega)) ?_
    refine wr_y rfl (y_ldI Tryz.underlying3 rfl rfl (h_a.c _) (by omega) (by omega)) ?_
    refine wr_y rfl (y_assign rfl) ?_
    refine wr_y rfl (y_assign rfl) ?_
    refine wr_nil ?_
    refine w_reg ?_
    refine wr_y rfl (y_move rfl) ?_
    refine wr_y rfl (y_move rfl) ?_
    refine wr_y rfl (y_move rfl) ?_
    refine wr_y rfl (y_move rfl) ?_
    refine wr_y rfl (y_index1 Tryz.underlying24 sz3 rfl rfl (rdr 1 rfl) (by omega) (by omega)) ?_
    refine wr_y rfl (y_ldI Tryz.underlying3 rfl rfl (rdr 1 rfl) (by omega) (by omega)) ?_
    refine wr_y rfl (y_index1 Tryz.underlying24 sz3 rfl rfl (rdr 0 rfl) (by omega) (by omega)) ?_
    refine wr_n (a_storeI 0 rfl sz3 rfl rfl (by omega) (by omega)) ?_
    rintro _ _ rfl
    refine wr_rows (R1 := [⟨3, 1, (some ⟨g_4, 0, none⟩), a.length, a.length, ints .i64 (upd V i (rd P1 (rd a i))), false⟩, ⟨3, 1, A_1, a.length, c_2, ints .i64 P1, false⟩]) rfl ?_
    refine wr_nil ?_
    refine w_reg ?_
    refine wr_y rfl (y_addI rfl rfl (by omega)) ?_
    refine wr_y rfl (y_move rfl) ?_
    refine wr_nil ?_
    exact ⟨i + 1, upd V i (rd P1 (rd a i)), ⟨(by omega), (by omega), (by rw [upd_length]; exact hVl), (fill_step (f := fun j => rd P1 (rd a j)) hi0 (by omega) hV rfl)⟩, (by omega), (Sub.cons rfl (Sub.cons rfl (Sub.cons rfl (Sub.cons rfl (Sub.cons rfl Sub.nil))))), fun _ h => h⟩
  ·
    refine w_exit ?_
    refine w_seq ?_
    refine w_reg ?_
    refine wr_y rfl (y_move rfl) ?_
    refine wr_y rfl (y_assign rfl) ?_
    refine wr_y rfl (y_assign rfl) ?_
    refine wr_nil ?_
    refine w_retR (R1 := [⟨3, 1, (some ⟨g_4, 0, none⟩), a.length, a.length, ints .i64 V, false⟩]) (fun _ h => h.sel [0] (by decide) rfl) ?_
    refine ⟨_, _, rfl, rfl, ?_⟩
    obtain rfl : V = lcpV u a := lcp_of hOk hVl (fun p h1 h2 => by rw [hV p h1 (by omega), hP1])
    exact ⟨_, _, rfl, rfl⟩

set_option maxRecDepth 100000 in
theorem sa19_ct {w : World} {A_u : Option Addr} {n_u c_u : Nat} {u : List Int} {A_a : Option Addr} {n_a c_a : Nat} {a : List Int} (h_u : Rd w A_u n_u c_u 1 (ints .u8 u)) (h_a : Rd w A_a n_a c_a 1 (ints .i64 a)) (hap : a.Perm (iota u.length)) (has : a.Pairwise (ordE u)) (hN : u.length ≤ 1000000) :
    Ct Tryz.prog 133 #[.slice A_u n_u c_u, .slice A_a n_a c_a] w.heap.size w [] (fun v R' => v = .bool true) := by
  obtain rfl := h_u.lenI
  obtain rfl := h_a.lenI
  refine fn1 Tryz.func133 rfl rfl rfl ?_
  have m_u := h_u.max
  have m_a := h_a.max
  have hal : a.length = u.length := by rw [hap.length_eq, iota_len]
  refine w_seq ?_
  refine w_reg ?_
  refine wr_y rfl (y_assign rfl) ?_
  refine wr_nil ?_
  refine w_seq ?_
  refine w_reg ?_
  refine wr_y rfl (y_move rfl) ?_
  refine wr_a rfl (a_callF en128 rfl (Ct.fresh (fun w hw => inverseP16_ct ((h_a.c _) w hw) (perm_self hap) (by omega)))) ?_
  rintro _ _ ⟨_, rfl, R1, A_1, c_2, rfl, hI_R1, rfl⟩
  refine wr_y rfl (y_move rfl) ?_
  refine wr_y rfl (y_extract rfl rfl) ?_
  refine wr_y rfl (y_extract rfl rfl) ?_
  refine wr_y rfl (y_assign rfl) ?_
  refine wr_y rfl (y_assign rfl) ?_
  refine wr_nil ?_
  refine w_seq ?_
  refine w_seq ?_
  refine w_reg ?_
  refine wr_y rfl (y_move rfl) ?_
  refine wr_y rfl (y_not rfl) ?_
  refine wr_y rfl (y_move rfl) ?_
  refine wr_yes rfl rfl ?_
  refine wr_y rfl (y_move rfl) ?_
  refine wr_yes rfl rfl ?_
  refine wr_y rfl (y_len Tryz.underlying24 rfl) ?_
  refine wr_yes rfl rfl ?_
  refine wr_y rfl (y_move rfl) ?_
  refine wr_yes rfl rfl ?_
  refine wr_y rfl (y_len Tryz.underlying23 rfl) ?_
  refine wr_yes rfl rfl ?_
  refine wr_y rfl (Yl.f (y_ne rfl rfl) (by omega)) ?_
  refine wr_y rfl (y_pickF rfl rfl) ?_
  refine wr_nil ?_
  refine w_false rfl ?_
  refine w_skip ?_
  refine w_seq ?_
  refine w_reg ?_
  refine wr_y rfl (y_move rfl) ?_
  refine wr_a rfl (a_litI .i64 [-1] Tryz.underlying24 zs3 rfl rfl rfl) ?_
  rintro _ _ ⟨g_4, rfl, rfl⟩
  refine wr_a rfl (a_appendI 1 rfl Tryz.underlying24 zb3 rfl rfl rfl (rdr 0 rfl) (by omega)) ?_
  rintro _ _ ⟨A_5, c_6, rfl, rfl⟩
  refine wr_rows (R1 := [⟨3, 1, (some ⟨g_4, 0, none⟩), 1, 1, ints .i64 ([-1]), false⟩, ⟨3, 1, A_5, (a.length + 1), c_6, ints .i64 (R1 ++ ([-1])), false⟩]) rfl ?_
  refine wr_as (v := .slice A_5 (a.length + 1) c_6) rfl ?_
  refine wr_y rfl (y_assign rfl) ?_
  refine wr_nil ?_
  refine w_seq ?_
  refine w_seq ?_
  refine w_reg ?_
  refine wr_y rfl (y_assign rfl) ?_
  refine wr_nil ?_
  refine w_block ?_
  refine w_loop1 (fun (i : Int) => [(0, .slice A_u u.length c_u), (1, .slice A_a a.length c_a), (5, .slice A_5 (a.length + 1) c_6), (7, .int .i64 i)]) (fun (i : Int) => [⟨3, 1, (some ⟨g_4, 0, none⟩), 1, 1, ints .i64 ([-1]), false⟩, ⟨3, 1, A_5, (a.length + 1), c_6, ints .i64 (R1 ++ ([-1])), false⟩]) (fun (i : Int) => (1 ≤ i) ∧ (i ≤ a.length ∨ i = 1)) (fun (i : Int) => (a.length + 1 - i).toNat) ?_ ?_
  ·
    exact ⟨1, ⟨(by omega), (by omega)⟩, (Sub.cons rfl (Sub.cons rfl (Sub.cons rfl (Sub.cons rfl Sub.nil)))), fun _ h => h⟩
  intro i ⟨hi1, hi2⟩
  have hO := hI_R1.ord hap has
  have hrl := hO.len
  have hr1 : (R1 ++ [-1]).length = u.length + 1 := by rw [List.length_append, hrl]; rfl
  refine w_seq ?_
  refine w_seq ?_
  refine w_reg ?_
  refine wr_y rfl (y_move rfl) ?_
  refine wr_y rfl (y_move rfl) ?_
  refine wr_y rfl (y_len Tryz.underlying24 rfl) ?_
  refine wr_y rfl (y_lt rfl rfl) ?_
  refine wr_nil ?_
  refine w_if rfl (fun hc1 => ?_) (fun hc1 => ?_)
  ·
    have hx := hO.ain (r := i - 1) (by omega) (by omega)
    have hy := hO.ain (r := i) (by omega) (by omega)
    have hno := hO.nofall (r := i) (by omega) (by omega)
    rw [← bhF_app hx.1 (by omega), ← bhF_app hy.1 (by omega)] at hno
    refine w_skip ?_
    refine w_seq ?_
    refine w_block ?_
    refine w_seq ?_
    refine w_regd mixed ?_
    refine wd_y 0 rfl (by kernel_rfl) rfl (y_move rfl) ?_
    refine wd_y 1 rfl (by kernel_rfl) rfl (y_move rfl) ?_
    refine wd_y 2 rfl (by kernel_rfl) rfl (y_subI rfl rfl (by omega)) ?_
    refine wd_y 3 rfl (by kernel_rfl) rfl (y_index1 Tryz.underlying24 sz3 rfl rfl (h_a.c _) (by omega) (by omega)) ?_
    refine wd_y 4 rfl (by kernel_rfl) rfl (y_ldI Tryz.underlying3 rfl rfl (h_a.c _) (by omega) (by omega)) ?_
    refine wd_y 5 rfl (by kernel_rfl) rfl (y_move rfl) ?_
    refine wd_y 6 rfl (by kernel_rfl) rfl (y_move rfl) ?_
    refine wd_y 7 rfl (by kernel_rfl) rfl (y_index1 Tryz.underlying24 sz3 rfl rfl (h_a.c _) (by omega) (by omega)) ?_
    refine wd_y 8 rfl (by kernel_rfl) rfl (y_ldI Tryz.underlying3 rfl rfl (h_a.c _) (by omega) (by omega)) ?_
    refine wd_y 9 rfl (by kernel_rfl) rfl (y_assign rfl) ?_
    refine wd_y 10 rfl (by kernel_rfl) rfl (y_assign rfl) ?_
    refine wd_nil (by kernel_rfl) ?_
    refine w_join0 [(0, .slice A_u u.length c_u), (1, .slice A_a a.length c_a), (5, .slice A_5 (a.length + 1) c_6), (7, .int .i64 i), (74, .bool (decide (((rd u (rd a i)) < (rd u (rd a (i - 1)))) ∨ (((rd u (rd a (i - 1))) = (rd u (rd a i))) ∧ ((rd (R1 ++ ([-1])) ((rd a i) + 1)) < (rd (R1 ++ ([-1])) ((rd a (i - 1)) + 1)))))))] [⟨3, 1, (some ⟨g_4, 0, none⟩), 1, 1, ints .i64 ([-1]), false⟩, ⟨3, 1, A_5, (a.length + 1), c_6, ints .i64 (R1 ++ ([-1])), false⟩] ?_ ?_
    ·
      refine w_regd mixed ?_
      refine wd_y 0 rfl (by kernel_rfl) rfl (y_move rfl) ?_
      refine wd_y 1 rfl (by kernel_rfl) rfl (y_move rfl) ?_
      refine wd_y 2 rfl (by kernel_rfl) rfl (y_index1 Tryz.underlying23 sz5 rfl rfl (h_u.c _) (by omega) (by omega)) ?_
      refine wd_y 3 rfl (by kernel_rfl) rfl (y_ldI Tryz.underlying5 rfl rfl (h_u.c _) (by omega) (by omega)) ?_
      refine wd_y 4 rfl (by kernel_rfl) rfl (y_move rfl) ?_
      refine wd_y 5 rfl (by kernel_rfl) rfl (y_move rfl) ?_
      refine wd_y 6 rfl (by kernel_rfl) rfl (y_index1 Tryz.underlying23 sz5 rfl rfl (h_u.c _) (by omega) (by omega)) ?_
      refine wd_y 7 rfl (by kernel_rfl) rfl (y_ldI Tryz.underlying5 rfl rfl (h_u.c _) (by omega) (by omega)) ?_
      refine wd_y 8 rfl (by kernel_rfl) rfl (y_gt rfl rfl) ?_
      refine wd_y 9 rfl (by kernel_rfl) rfl (y_move rfl) ?_
      refine wd_case 51 rfl (fun hc2 => ?_) (fun hc2 => ?_)
      ·
        refine wd_no 10 rfl (by kernel_rfl) rfl rfl rfl rfl ?_
        refine wd_no 11 rfl (by kernel_rfl) rfl rfl rfl rfl ?_
        refine wd_no 12 rfl (by kernel_rfl) rfl rfl rfl rfl ?_
        refine wd_no 13 rfl (by kernel_rfl) rfl rfl rfl rfl ?_
        refine wd_no 14 rfl (by kernel_rfl) rfl rfl rfl rfl ?_
        refine wd_no 15 rfl (by kernel_rfl) rfl rfl rfl rfl ?_
        refine wd_no 16 rfl (by kernel_rfl) rfl rfl rfl rfl ?_
        refine wd_no 17 rfl (by kernel_rfl) rfl rfl rfl rfl ?_
        refine wd_no 18 rfl (by kernel_rfl) rfl rfl rfl rfl ?_
        refine wd_no 19 rfl (by kernel_rfl) rfl rfl rfl rfl ?_
        refine wd_nou 20 rfl (by kernel_rfl) rfl rfl rfl ?_
        refine wd_nou 21 rfl (by kernel_rfl) rfl rfl rfl ?_
        refine wd_nou 22 rfl (by kernel_rfl) rfl rfl rfl ?_
        refine wd_nou 23 rfl (by kernel_rfl) rfl rfl rfl ?_
        refine wd_nou 24 rfl (by kernel_rfl) rfl rfl rfl ?_
        refine wd_nou 25 rfl (by kernel_rfl) rfl rfl rfl ?_
        refine wd_nou 26 rfl (by kernel_rfl) rfl rfl rfl ?_
        refine wd_nou 27 rfl (by kernel_rfl) rfl rfl rfl ?_
        refine wd_nou 28 rfl (by kernel_rfl) rfl rfl rfl ?_
        refine wd_nou 29 rfl (by kernel_rfl) rfl rfl rfl ?_
        refine wd_nou 30 rfl (by kernel_rfl) rfl rfl rfl ?_
        refine wd_no 31 rfl (by kernel_rfl) rfl rfl rfl rfl ?_
        refine wd_y 32 rfl (by kernel_rfl) rfl (y_pickT rfl rfl) ?_
        refine wd_nil (by kernel_rfl) ?_
        exact ⟨(Sub.cons rfl (Sub.cons rfl (Sub.cons rfl (Sub.cons rfl (Sub.to rfl (mb_t (by first | omega | exact ⟨fun h => ⟨(by assumption), h⟩, fun h => h.2⟩ | exact .inl (by assumption) | exact ⟨.inr, fun h => h.resolve_left (by assumption)⟩ | exact ⟨fun h => h.resolve_left (by assumption), .inr⟩ | simp [*])) Sub.nil))))), fun _ h => h⟩
      ·
        refine wd_yg 10 rfl (by kernel_rfl) rfl rfl rfl (y_move rfl) ?_
        refine wd_yg 11 rfl (by kernel_rfl) rfl rfl rfl (y_move rfl) ?_
        refine wd_yg 12 rfl (by kernel_rfl) rfl rfl rfl (y_index1 Tryz.underlying23 sz5 rfl rfl (h_u.c _) (by omega) (by omega)) ?_
        refine wd_yg 13 rfl (by kernel_rfl) rfl rfl rfl (y_ldI Tryz.underlying5 rfl rfl (h_u.c _) (by omega) (by omega)) ?_
        refine wd_yg 14 rfl (by kernel_rfl) rfl rfl rfl (y_move rfl) ?_
        refine wd_yg 15 rfl (by kernel_rfl) rfl rfl rfl (y_move rfl) ?_
        refine wd_yg 16 rfl (by kernel_rfl) rfl rfl rfl (y_index1 Tryz.underlying23 sz5 rfl rfl (h_u.c _) (by omega) (by omega)) ?_
        refine wd_yg 17 rfl (by kernel_rfl) rfl rfl rfl (y_ldI Tryz.underlying5 rfl rfl (h_u.c _) (by omega) (by omega)) ?_
        refine wd_yg 18 rfl (by kernel_rfl) rfl rfl rfl (y_eq rfl rfl) ?_
        refine wd_yg 19 rfl (by kernel_rfl) rfl rfl rfl (y_move rfl) ?_
        refine wd_case 61 rfl (fun hc3 => ?_) (fun hc3 => ?_)
        ·
          refine wd_yg 20 rfl (by kernel_rfl) rfl rfl rfl (y_move rfl) ?_
          refine wd_yg 21 rfl (by kernel_rfl) rfl rfl rfl (y_move rfl) ?_
          refine wd_yg 22 rfl (by kernel_rfl) rfl rfl rfl (y_addI rfl rfl (by omega)) ?_
          refine wd_yg 23 rfl (by kernel_rfl) rfl rfl rfl (y_index1 Tryz.underlying24 sz3 rfl rfl (rdr 1 rfl) (by omega) (by omega)) ?_
          refine wd_yg 24 rfl (by kernel_rfl) rfl rfl rfl (y_ldI Tryz.underlying3 rfl rfl (rdr 1 rfl) (by omega) (by omega)) ?_
          refine wd_yg 25 rfl (by kernel_rfl) rfl rfl rfl (y_move rfl) ?_
          refine wd_yg 26 rfl (by kernel_rfl) rfl rfl rfl (y_move rfl) ?_
          refine wd_yg 27 rfl (by kernel_rfl) rfl rfl rfl (y_addI rfl rfl (by omega)) ?_
          refine wd_yg 28 rfl (by kernel_rfl) rfl rfl rfl (y_index1 Tryz.underlying24 sz3 rfl rfl (rdr 1 rfl) (by omega) (by omega)) ?_
          refine wd_yg 29 rfl (by kernel_rfl) rfl rfl rfl (y_ldI Tryz.underlying3 rfl rfl (rdr 1 rfl) (by omega) (by omega)) ?_
          refine wd_yg 30 rfl (by kernel_rfl) rfl rfl rfl (y_gt rfl rfl) ?_
          refine wd_yg 31 rfl (by kernel_rfl) rfl rfl rfl (y_pickT rfl rfl) ?_
          refine wd_y 32 rfl (by kernel_rfl) rfl (y_pickF rfl rfl) ?_
          refine wd_nil (by kernel_rfl) ?_
          exact ⟨(Sub.cons rfl (Sub.cons rfl (Sub.cons rfl (Sub.cons rfl (Sub.to rfl (mb (by first | omega | exact ⟨fun h => ⟨(by assumption), h⟩, fun h => h.2⟩ | exact .inl (by assumption) | exact ⟨.inr, fun h => h.resolve_left (by assumption)⟩ | exact ⟨fun h => h.resolve_left (by assumption), .inr⟩ | simp [*])) Sub.nil))))), fun _ h => h⟩
        ·
          refine wd_no 20 rfl (by kernel_rfl) rfl rfl rfl rfl ?_
          refine wd_no 21 rfl (by kernel_rfl) rfl rfl rfl rfl ?_
          refine wd_no 22 rfl (by kernel_rfl) rfl rfl rfl rfl ?_
          refine wd_no 23 rfl (by kernel_rfl) rfl rfl rfl rfl ?_
          refine wd_no 24 rfl (by kernel_rfl) rfl rfl rfl rfl ?_
          refine wd_no 25 rfl (by kernel_rfl) rfl rfl rfl rfl ?_
          refine wd_no 26 rfl (by kernel_rfl) rfl rfl rfl rfl ?_
          refine wd_no 27 rfl (by kernel_rfl) rfl rfl rfl rfl ?_
          refine wd_no 28 rfl (by kernel_rfl) rfl rfl rfl rfl ?_
          refine wd_no 29 rfl (by kernel_rfl) rfl rfl rfl rfl ?_
          refine wd_no 30 rfl (by kernel_rfl) rfl rfl rfl rfl ?_
          refine wd_yg 31 rfl (by kernel_rfl) rfl rfl rfl (y_pickF rfl rfl) ?_
          refine wd_y 32 rfl (by kernel_rfl) rfl (y_pickF rfl rfl) ?_
          refine wd_nil (by kernel_rfl) ?_
          exact ⟨(Sub.cons rfl (Sub.cons rfl (Sub.cons rfl (Sub.cons rfl (Sub.to rfl (mb_f (by first | omega | exact ⟨fun h => ⟨(by assumption), h⟩, fun h => h.2⟩ | exact .inl (by assumption) | exact ⟨.inr, fun h => h.resolve_left (by assumption)⟩ | exact ⟨fun h => h.resolve_left (by assumption), .inr⟩ | simp [*])) Sub.nil))))), fun _ h => h⟩
    refine w_if rfl (fun hc4 => ?_) (fun hc4 => ?_)
    ·
      refine w_seq ?_
      refine w_reg ?_
      refine wr_y rfl (y_assign rfl) ?_
      refine wr_nil ?_
      refine w_retR (R1 := []) (fun _ h => h.sel [] (by decide) rfl) ?_
      refine ⟨_, rfl, ?_⟩
      exact absurd (by assumption) hno
    ·
      refine w_skip ?_
      refine w_reg ?_
      refine wr_y rfl (y_move rfl) ?_
      refine wr_y rfl (y_addI rfl rfl (by omega)) ?_
      refine wr_y rfl (y_assign rfl) ?_
      refine wr_nil ?_
      exact ⟨i + 1, ⟨(by omega), (by omega)⟩, (by omega), (Sub.cons rfl (Sub.cons rfl (Sub.cons rfl (Sub.cons rfl Sub.nil)))), fun _ h => h⟩
  ·
    refine w_exit ?_
    refine w_seq ?_
    refine w_reg ?_
    refine wr_y rfl (y_assign rfl) ?_
    refine wr_nil ?_
    refine w_retR (R1 := []) (fun _ h => h.sel [] (by decide) rfl) ?_
    refine ⟨_, rfl, ?_⟩
    rfl

set_option maxRecDepth 100000 in
theorem lcp19_ct {w : World} {A_u : Option Addr} {n_u c_u : Nat} {u : List Int} {A_a : Option Addr} {n_a c_a : Nat} {a : List Int} {A_h : Option Addr} {n_h c_h : Nat} {h : List Int} (h_u : Rd w A_u n_u c_u 1 (ints .u8 u)) (h_a : Rd w A_a n_a c_a 1 (ints .i64 a)) (h_h : Rd w A_h n_h c_h 1 (ints .i64 h)) (hap : a.Perm (iota u.length)) (has : a.Pairwise (ordE u)) (hN : u.length ≤ 1000000) (hh : h = lcpV u a) :
    Ct Tryz.prog 72 #[.slice A_u n_u c_u, .slice A_a n_a c_a, .slice A_h n_h c_h] w.heap.size w [] (fun v R' => v = .bool true) := by
  obtain rfl := h_u.lenI
  obtain rfl := h_a.lenI
  obtain rfl := h_h.lenI
  refine fn1 Tryz.func72 rfl rfl rfl ?_
  have m_u := h_u.max
  have m_a := h_a.max
  have m_h := h_h.max
  have hal : a.length = u.length := by rw [hap.length_eq, iota_len]
  refine w_seq ?_
  refine w_reg ?_
  refine wr_y rfl (y_assign rfl) ?_
  refine wr_nil ?_
  refine w_seq ?_
  refine w_reg ?_
  refine wr_y rfl (y_move rfl) ?_
  refine wr_y rfl (y_move rfl) ?_
  refine wr_a rfl (a_callF en69 rfl (Ct.fresh (fun w hw => lcp17_ct ((h_u.c _) w hw) ((h_a.c _) w hw) hap has hN))) ?_
  rintro _ _ ⟨_, rfl, A_1, c_2, rfl, rfl⟩
  refine wr_y rfl (y_move rfl) ?_
  refine wr_y rfl (y_extract rfl rfl) ?_
  refine wr_y rfl (y_extract rfl rfl) ?_
  refine wr_y rfl (y_assign rfl) ?_
  refine wr_y rfl (y_assign rfl) ?_
  refine wr_nil ?_
  refine w_seq ?_
  refine w_reg ?_
  refine wr_y rfl (y_move rfl) ?_
  refine wr_y rfl (y_move rfl) ?_
  refine wr_a rfl (a_callF en133 rfl (Ct.quiet (fun w hw => sa19_ct ((h_u.c _) w hw) ((h_a.c _) w hw) hap has hN))) ?_
  rintro _ _ ⟨rfl, rfl⟩
  refine wr_setT 17 rfl (trivial) ?_
  refine wr_y rfl (y_move rfl) ?_
  refine wr_yes rfl rfl ?_
  refine wr_y rfl (y_move rfl) ?_
  refine wr_yes rfl rfl ?_
  refine wr_y rfl (y_move rfl) ?_
  refine wr_yes rfl rfl ?_
  refine wr_a rfl (a_callF en71 rfl (Ct.quiet (fun w hw => equalI_ct ((rdr 0 rfl) w hw) ((h_h.c _) w hw) (by rw [lcpV_len]; omega)))) ?_
  rintro _ _ ⟨rfl, rfl⟩
  refine wr_setT 21 rfl (hh.symm) ?_
  refine wr_y rfl (y_pickT rfl rfl) ?_
  refine wr_y rfl (y_assign rfl) ?_
  refine wr_nil ?_
  refine w_retR (R1 := []) (fun _ h => h.sel [] (by decide) rfl) ?_
  refine ⟨_, rfl, ?_⟩
  rfl

end Go.Proofs.YtipnciohgbjjhaaGreat

/-! ## I2 -/
namespace Go.Proofs.YtipnciohgbjjhaaGreat
open Go Go.Eng Go.Pure
set_option linter.unusedVariables false
theorem ends_step {cs V : List Int} {i : Int} (h0 : 0 ≤ i) (hi : i < cs.length) (hl : V.length = cs.length) (hV : ∀ j : Int, 0 ≤ j → j < cs.length → rd V j = if j < i then ps cs (j + 1) else ps cs j) :
    ∀ j : Int, 0 ≤ j → j < cs.length → rd (upd V i (rd V i + rd cs i)) j = if j < i + 1 then ps cs (j + 1) else ps cs j := by
  intro j j0 j1
  have e1 : rd (upd V i (rd V i + rd cs i)) j = if j = i then rd V i + rd cs i else rd V j := rd_upd h0 j0 (by omega)
  have e2 := hV i h0 hi
  rw [if_neg (by omega)] at e2
  rw [e1, e2, hV j j0 j1]
  by_cases e : j = i
  · subst e
    rw [if_pos rfl, if_pos (by omega), ps_succ h0 hi]
  · rw [if_neg e]
    by_cases h : j < i
    · rw [if_pos h, if_pos (by omega)]
    · rw [if_neg h, if_neg (by omega)]
theorem cnt_sum {s : List Int} {k : Int} (hk : 0 ≤ k) (hs : ∀ x ∈ s, 0 ≤ x ∧ x < k) : (cntV s k).sum = s.length := by
  have h := cntV_sum (order := iota s.length) (keys := s) (k := k) hk fun i hi => hs _ (rd_mem (mem_iota.1 hi).1 (mem_iota.1 hi).2)
  rwa [map_iota_rd, iota_len] at h
theorem ends_done {cs V : List Int} (hl : V.length = cs.length) (hV : ∀ j : Int, 0 ≤ j → j < cs.length → rd V j = if j < cs.length then ps cs (j + 1) else ps cs j) : V = endsV cs :=
  list_ext_rd (hl.trans (endsV_len cs).symm) fun j h1 h2 => by rw [rd_endsV h1 (by omega), hV j h1 (by omega), if_pos (by omega)]
set_option maxRecDepth 100000 in
theorem ends_ct {B : Nat} {w0 : World} {R : List Row} {g_x : Nat} {A_s A_m A_c A_r : Option Addr} {c_s c_m c_c c_r : Nat} {s : List Int} {k : Int} (h_x : RdC B w0 R (some ⟨g_x, 0, none⟩) 1 1 4 [.slice A_s s.length c_s, .slice A_m s.length c_m, .slice A_c k.toNat c_c, .slice A_r s.length c_r]) (h_c : RdC B w0 R A_c k.toNat c_c 1 (ints .i64 (cntV s k))) (hk : 0 ≤ k ∧ k ≤ 1048576) (hs : ∀ x ∈ s, 0 ≤ x ∧ x < k) (hN : s.length ≤ 1000000) :
    Ct Tryz.prog 341 #[.pointer (some ⟨g_x, 0, none⟩)] B w0 (R) (fun v R' => ∃ A c, v = .slice A k.toNat c ∧ R' = ⟨3, 1, A, k.toNat, c, ints .i64 (endsV (cntV s k)), false⟩ :: R) := by
  refine fn1 Tryz.func341 rfl rfl rfl ?_
  have hcl : (cntV s k).length = k.toNat := cntV_len _ _
  have hsum : (cntV s k).sum = s.length := cnt_sum (by omega) hs
  have hSl : (startsV (cntV s k)).length = k.toNat := by rw [startsV_len, hcl]
  refine w_seq ?_
  refine w_reg ?_
  refine wr_y rfl (y_assign rfl) ?_
  refine wr_nil ?_
  refine w_seq ?_
  refine w_reg ?_
  refine wr_y rfl (y_move rfl) ?_
  refine wr_y rfl (y_nilCheck rfl) ?_
  refine wr_y rfl (y_fieldAt (off := 2) (m := 2) Tryz.underlying367 rfl sz24 rfl rfl rfl) ?_
  refine wr_y rfl (y_ldIn (RdC.right h_x []) Tryz.underlying24 rfl rfl rfl) ?_
  refine wr_a rfl (a_callF en236 rfl (Ct.fresh (fun w hw => starts_ct ((RdC.right h_c []) w hw) (cntV_nonneg _ _) (by rw [hsum]; omega) (by rw [hcl]; omega)))) ?_
  rintro _ _ ⟨_, rfl, A_1, c_2, rfl, rfl⟩
  refine wr_y rfl (y_assign rfl) ?_
  refine wr_nil ?_
  refine w_seq ?_
  refine w_seq ?_
  refine w_reg ?_
  refine wr_y rfl (y_move rfl) ?_
  refine wr_y rfl (y_nilCheck rfl) ?_
  refine wr_y rfl (y_fieldAt (off := 2) (m := 2) Tryz.underlying367 rfl sz24 rfl rfl rfl) ?_
  refine wr_y rfl (y_ldIn (RdC.right h_x [_]) Tryz.underlying24 rfl rfl rfl) ?_
  refine wr_y rfl (y_len Tryz.underlying24 rfl) ?_
  refine wr_y rfl (y_move rfl) ?_
  refine wr_nil ?_
  refine w_block ?_
  refine w_loop2 (fun (i : Int) (V : List Int) => [(3, .slice A_1 ((startsV (cntV s k)).length) c_2), (14, .slice A_c k.toNat c_c), (15, .int .i64 ((k.toNat : Nat) : Int)), (16, .int .i64 i)]) (fun (i : Int) (V : List Int) => (⟨3, 1, A_1, (startsV (cntV s k)).length, c_2, ints .i64 V, false⟩ :: R)) (fun (i : Int) (V : List Int) => (0 ≤ i) ∧ (i ≤ (cntV s k).length) ∧ (V.length = (cntV s k).length) ∧ (∀ j : Int, 0 ≤ j → j < (cntV s k).length → rd V j = if j < i then ps (cntV s k) (j + 1) else ps (cntV s k) j)) (fun (i : Int) (V : List Int) => ((cntV s k).length - i).toNat) ?_ ?_
  ·
    exact ⟨0, startsV (cntV s k), ⟨(by omega), (by omega), (by rw [startsV_len]), (fun j h1 h2 => by rw [if_neg (by omega)]; exact rd_startsV h1 h2)⟩, (Sub.cons rfl (Sub.cons rfl (Sub.cons rfl (Sub.cons rfl Sub.nil)))), fun _ h => h⟩
  intro i V ⟨hi0, hi1, hVl, hV⟩
  refine w_seq ?_
  refine w_reg ?_
  refine wr_y rfl (y_lt rfl rfl) ?_
  refine wr_nil ?_
  refine w_seq ?_
  refine w_if rfl (fun hc1 => ?_) (fun hc1 => ?_)
  ·
    have hb1 := ps_bound (cntV_nonneg s k) i
    have hb2 := ps_bound (cntV_nonneg s k) (i + 1)
    rw [hsum] at hb1 hb2
    have hvi := hV i hi0 (by omega)
    rw [if_neg (by omega)] at hvi
    have hps := ps_succ (L := cntV s k) hi0 (by omega)
    refine w_skip ?_
    refine w_seq ?_
    refine w_block ?_
    refine w_seq ?_
    refine w_reg ?_
    refine wr_y rfl (y_move rfl) ?_
    refine wr_y rfl (y_index1 Tryz.underlying24 sz3 rfl rfl (RdC.right h_c [_]) (by omega) (by omega)) ?_
    refine wr_y rfl (y_ldI Tryz.underlying3 rfl rfl (RdC.right h_c [_]) (by omega) (by omega)) ?_
    refine wr_y rfl (y_assign rfl) ?_
    refine wr_y rfl (y_assign rfl) ?_
    refine wr_nil ?_
    refine w_reg ?_
    refine wr_y rfl (y_move rfl) ?_
    refine wr_y rfl (y_move rfl) ?_
    refine wr_y rfl (y_index1 Tryz.underlying24 sz3 rfl rfl (rdr 0 rfl) (by omega) (by omega)) ?_
    refine wr_y rfl (y_ldI Tryz.underlying3 rfl rfl (rdr 0 rfl) (by omega) (by omega)) ?_
    refine wr_y rfl (y_move rfl) ?_
    refine wr_y rfl (y_addI rfl rfl (by omega)) ?_
    refine wr_y rfl (y_index1 Tryz.underlying24 sz3 rfl rfl (rdr 0 rfl) (by omega) (by omega)) ?_
    refine wr_n (a_storeI 0 rfl sz3 rfl rfl (by omega) (by omega)) ?_
    rintro _ _ rfl
    refine wr_rows (R1 := (⟨3, 1, A_1, (startsV (cntV s k)).length, c_2, ints .i64 (upd V i ((rd V i) + (rd (cntV s k) i))), false⟩ :: R)) rfl ?_
    refine wr_nil ?_
    refine w_reg ?_
    refine wr_y rfl (y_addI rfl rfl (by omega)) ?_
    refine wr_y rfl (y_move rfl) ?_
    refine wr_nil ?_
    exact ⟨i + 1, upd V i ((rd V i) + (rd (cntV s k) i)), ⟨(by omega), (by omega), (by rw [upd_length]; exact hVl), (ends_step hi0 (by omega) hVl hV)⟩, (by omega), (Sub.cons rfl (Sub.cons rfl (Sub.cons rfl (Sub.cons rfl Sub.nil)))), fun _ h => h⟩
  ·
    refine w_exit ?_
    refine w_seq ?_
    refine w_reg ?_
    refine wr_y rfl (y_move rfl) ?_
    refine wr_y rfl (y_assign rfl) ?_
    refine wr_nil ?_
    have hke : k.toNat = (cntV s k).length := hcl.symm
    obtain rfl : V = endsV (cntV s k) := ends_done hVl fun j h1 h2 => by rw [hV j h1 h2, if_pos (by omega), if_pos (by omega)]
    refine w_ret ?_
    rw [startsV_len, hcl]
    exact ⟨_, rfl, _, _, rfl, rfl⟩

theorem lgC {s D : List Int} {i : Int} (hent : rd D i = -1 ∨ (0 ≤ rd D i ∧ rd D i < s.length)) : (0 < rd D i ∧ ¬ rdb (smL s) (rd D i - 1) = true) ↔ (0 < rd D i ∧ smB s (rd D i - 1) = false) := by
  constructor
  · rintro ⟨h1, h2⟩
    rw [rdb_smL (by omega) (by omega)] at h2
    exact ⟨h1, by simpa using h2⟩
  · rintro ⟨h1, h2⟩
    rw [rdb_smL (by omega) (by omega), h2]
    exact ⟨h1, by simp⟩
theorem smC {s D : List Int} {i : Int} (hent : rd D i = -1 ∨ (0 ≤ rd D i ∧ rd D i < s.length)) : (0 < rd D i ∧ rdb (smL s) (rd D i - 1) = true) ↔ (0 < rd D i ∧ smB s (rd D i - 1) = true) := by
  constructor
  · rintro ⟨h1, h2⟩
    rw [rdb_smL (by omega) (by omega)] at h2
    exact ⟨h1, h2⟩
  · rintro ⟨h1, h2⟩
    rw [rdb_smL (by omega) (by omega), h2]
    exact ⟨h1, rfl⟩
section
variable {s l D H : List Int} {k i : Int} (hk : 0 ≤ k) (hs : ∀ x ∈ s, 0 ≤ x ∧ x < k) (hp : l.Perm (fstL s)) (hn : 0 < s.length)
include hk hs hp hn
theorem fLeZ (i0 : 0 ≤ i) (hi : i < s.length) (hD : D = (itL s k l i.toNat).1) (hH : H = (itL s k l i.toNat).2) : (rd D i = -1 ∨ (0 ≤ rd D i ∧ rd D i < s.length)) ∧ (D.length = s.length ∧ H.length = k.toNat) := by
  have h := fLe hk hs hp hn (i := i.toNat) (by omega) hD hH
  rwa [Int.toNat_of_nonneg i0] at h
theorem fLZ (i0 : 0 ≤ i) (hi : i < s.length) (hD : D = (itL s k l i.toNat).1) (hH : H = (itL s k l i.toNat).2) (hc : 0 < rd D i ∧ ¬ rdb (smL s) (rd D i - 1) = true) :
    rd D i < s.length ∧ (0 ≤ rd s (rd D i - 1) ∧ rd s (rd D i - 1) < k) ∧ (0 ≤ rd H (rd s (rd D i - 1)) ∧ rd H (rd s (rd D i - 1)) < s.length) ∧ upd D (rd H (rd s (rd D i - 1))) (rd D i - 1) = (itL s k l (i + 1).toNat).1 ∧ upd H (rd s (rd D i - 1)) (rd H (rd s (rd D i - 1)) + 1) = (itL s k l (i + 1).toNat).2 := by
  have he := (fLeZ hk hs hp hn i0 hi hD hH).1
  have h := fL hk hs hp hn (i := i.toNat) (by omega) hD hH (by rw [Int.toNat_of_nonneg i0]; exact (lgC he).1 hc)
  rw [Int.toNat_of_nonneg i0] at h
  rwa [show (i + 1).toNat = i.toNat + 1 by omega]
theorem fLsZ (i0 : 0 ≤ i) (hi : i < s.length) (hD : D = (itL s k l i.toNat).1) (hH : H = (itL s k l i.toNat).2) (hc : ¬ (0 < rd D i ∧ ¬ rdb (smL s) (rd D i - 1) = true)) : D = (itL s k l (i + 1).toNat).1 ∧ H = (itL s k l (i + 1).toNat).2 := by
  have he := (fLeZ hk hs hp hn i0 hi hD hH).1
  have h := fLs (i := i.toNat) hD hH (by rw [Int.toNat_of_nonneg i0]; exact fun h => hc ((lgC he).2 h))
  rwa [show (i + 1).toNat = i.toNat + 1 by omega]
theorem fSeZ (i0 : 0 ≤ i) (hi : i < s.length) (hD : D = (itS s k l (s.length - 1 - i).toNat).1) (hH : H = (itS s k l (s.length - 1 - i).toNat).2) : (rd D i = -1 ∨ (0 ≤ rd D i ∧ rd D i < s.length)) ∧ (D.length = s.length ∧ H.length = k.toNat) :=
  fSe hk hs hp hn (m := ((s.length : Int) - 1 - i).toNat) (by omega) (by omega) hD hH
theorem fSZ (i0 : 0 ≤ i) (hi : i < s.length) (hD : D = (itS s k l (s.length - 1 - i).toNat).1) (hH : H = (itS s k l (s.length - 1 - i).toNat).2) (hc : 0 < rd D i ∧ rdb (smL s) (rd D i - 1) = true) :
    rd D i < s.length ∧ (0 ≤ rd s (rd D i - 1) ∧ rd s (rd D i - 1) < k) ∧ (0 ≤ rd H (rd s (rd D i - 1)) - 1 ∧ rd H (rd s (rd D i - 1)) - 1 < s.length) ∧ upd D (rd H (rd s (rd D i - 1)) - 1) (rd D i - 1) = (itS s k l (s.length - 1 - (i - 1)).toNat).1 ∧ upd H (rd s (rd D i - 1)) (rd H (rd s (rd D i - 1)) - 1) = (itS s k l (s.length - 1 - (i - 1)).toNat).2 := by
  have he := (fSeZ hk hs hp hn i0 hi hD hH).1
  have h := fS hk hs hp hn (m := ((s.length : Int) - 1 - i).toNat) (by omega) (by omega) hD hH ((smC he).1 hc)
  rwa [show ((s.length : Int) - 1 - (i - 1)).toNat = ((s.length : Int) - 1 - i).toNat + 1 by omega]
theorem fSsZ (i0 : 0 ≤ i) (hi : i < s.length) (hD : D = (itS s k l (s.length - 1 - i).toNat).1) (hH : H = (itS s k l (s.length - 1 - i).toNat).2) (hc : ¬ (0 < rd D i ∧ rdb (smL s) (rd D i - 1) = true)) : D = (itS s k l (s.length - 1 - (i - 1)).toNat).1 ∧ H = (itS s k l (s.length - 1 - (i - 1)).toNat).2 := by
  have he := (fSeZ hk hs hp hn i0 hi hD hH).1
  have h := fSs (m := ((s.length : Int) - 1 - i).toNat) (i := i) (by omega) hD hH (fun h => hc ((smC he).2 h))
  rwa [show ((s.length : Int) - 1 - (i - 1)).toNat = ((s.length : Int) - 1 - i).toNat + 1 by omega]
end
set_option maxRecDepth 100000 in
theorem lay_ct {B : Nat} {w0 : World} {R : List Row} {g_x : Nat} {A_s A_m A_c A_r : Option Addr} {c_s c_m c_c c_r : Nat} {s : List Int} {k : Int} {A_e : Option Addr} {n_e c_e : Nat} {row E : List Int} {j : Int} (h_x : RdC B w0 R (some ⟨g_x, 0, none⟩) 1 1 4 [.slice A_s s.length c_s, .slice A_m s.length c_m, .slice A_c k.toNat c_c, .slice A_r s.length c_r]) (h_s : RdC B w0 R A_s s.length c_s 1 (ints .i64 s)) (hk : 0 ≤ k ∧ k ≤ 1048576) (hN : s.length ≤ 1000000) (hj : 0 ≤ j ∧ j < s.length) (hc : 0 ≤ rd s j ∧ rd s j < k) (hl : row.length = s.length ∧ E.length = k.toNat ∧ n_e = k.toNat) (hv : 0 ≤ (rd E (rd s j)) - 1 ∧ (rd E (rd s j)) - 1 < s.length) :
    Ct Tryz.prog 342 #[.pointer (some ⟨g_x, 0, none⟩), .slice A_e n_e c_e, .int .i64 j] B w0 (⟨3, 1, A_r, s.length, c_r, ints .i64 row, false⟩ :: ⟨3, 1, A_e, n_e, c_e, ints .i64 E, false⟩ :: R) (fun v R' => v = .tuple #[] ∧ R' = ⟨3, 1, A_r, s.length, c_r, ints .i64 (upd row ((rd E (rd s j)) - 1) j), false⟩ :: ⟨3, 1, A_e, n_e, c_e, ints .i64 (upd E (rd s j) ((rd E (rd s j)) - 1)), false⟩ :: R) := by
  refine fn0 Tryz.func342 rfl rfl rfl ?_
  obtain ⟨hl1, hl2, hl3⟩ := hl
  have he : rd (upd E (rd s j) ((rd E (rd s j)) - 1)) (rd s j) = (rd E (rd s j)) - 1 := rd_upd_same hc.1 (by omega)
  refine w_seq ?_
  refine w_reg ?_
  refine wr_y rfl (y_move rfl) ?_
  refine wr_y rfl (y_move rfl) ?_
  refine wr_y rfl (y_nilCheck rfl) ?_
  refine wr_y rfl (y_fieldAt (off := 0) (m := 0) Tryz.underlying367 rfl sz24 rfl rfl rfl) ?_
  refine wr_y rfl (y_ldIn (RdC.right h_x [_, _]) Tryz.underlying24 rfl rfl rfl) ?_
  refine wr_y rfl (y_move rfl) ?_
  refine wr_y rfl (y_index1 Tryz.underlying24 sz3 rfl rfl (RdC.right h_s [_, _]) (by omega) (by omega)) ?_
  refine wr_y rfl (y_ldI Tryz.underlying3 rfl rfl (RdC.right h_s [_, _]) (by omega) (by omega)) ?_
  refine wr_y rfl (y_index1 Tryz.underlying24 sz3 rfl rfl (rdr 1 rfl) (by omega) (by omega)) ?_
  refine wr_y rfl (y_ldI Tryz.underlying3 rfl rfl (rdr 1 rfl) (by omega) (by omega)) ?_
  refine wr_y rfl (y_subI rfl rfl (by omega)) ?_
  refine wr_y rfl (y_index1 Tryz.underlying24 sz3 rfl rfl (rdr 1 rfl) (by omega) (by omega)) ?_
  refine wr_n (a_storeI 1 rfl sz3 rfl rfl (by omega) (by omega)) ?_
  rintro _ _ rfl
  refine wr_rows (R1 := (⟨3, 1, A_r, s.length, c_r, ints .i64 row, false⟩ :: ⟨3, 1, A_e, n_e, c_e, ints .i64 (upd E (rd s j) ((rd E (rd s j)) - 1)), false⟩ :: R)) rfl ?_
  refine wr_nil ?_
  refine w_regd mixed ?_
  refine wd_y 0 rfl (by kernel_rfl) rfl (y_move rfl) ?_
  refine wd_y 1 rfl (by kernel_rfl) rfl (y_nilCheck rfl) ?_
  refine wd_y 2 rfl (by kernel_rfl) rfl (y_fieldAt (off := 3) (m := 3) Tryz.underlying367 rfl sz24 rfl rfl rfl) ?_
  refine wd_y 3 rfl (by kernel_rfl) rfl (y_ldIn (RdC.right h_x [_, _]) Tryz.underlying24 rfl rfl rfl) ?_
  refine wd_y 4 rfl (by kernel_rfl) rfl (y_move rfl) ?_
  refine wd_y 5 rfl (by kernel_rfl) rfl (y_move rfl) ?_
  refine wd_y 6 rfl (by kernel_rfl) rfl (y_nilCheck rfl) ?_
  refine wd_y 7 rfl (by kernel_rfl) rfl (y_fieldAt (off := 0) (m := 0) Tryz.underlying367 rfl sz24 rfl rfl rfl) ?_
  refine wd_y 8 rfl (by kernel_rfl) rfl (y_ldIn (RdC.right h_x [_, _]) Tryz.underlying24 rfl rfl rfl) ?_
  refine wd_y 9 rfl (by kernel_rfl) rfl (y_move rfl) ?_
  refine wd_y 10 rfl (by kernel_rfl) rfl (y_index1 Tryz.underlying24 sz3 rfl rfl (RdC.right h_s [_, _]) (by omega) (by omega)) ?_
  refine wd_y 11 rfl (by kernel_rfl) rfl (y_ldI Tryz.underlying3 rfl rfl (RdC.right h_s [_, _]) (by omega) (by omega)) ?_
  refine wd_y 12 rfl (by kernel_rfl) rfl (y_index1 Tryz.underlying24 sz3 rfl rfl (rdr 1 rfl) (by omega) (by omega)) ?_
  refine wd_y 13 rfl (by kernel_rfl) rfl (y_ldI Tryz.underlying3 rfl rfl (rdr 1 rfl) (by omega) (by omega)) ?_
  refine wd_y 14 rfl (by kernel_rfl) rfl (y_move rfl) ?_
  refine wd_y 15 rfl (by kernel_rfl) rfl (y_index1 Tryz.underlying24 sz3 rfl rfl (rdr 0 rfl) (by omega) (by omega)) ?_
  refine wd_n 16 rfl (by kernel_rfl) (a_storeI 0 rfl sz3 rfl rfl (by omega) (by omega)) ?_
  rintro _ _ rfl
  refine ⟨.inl (by kernel_rfl), ?_⟩
  refine wd_rows (R1 := (⟨3, 1, A_r, s.length, c_r, ints .i64 (upd row (rd (upd E (rd s j) ((rd E (rd s j)) - 1)) (rd s j)) j), false⟩ :: ⟨3, 1, A_e, n_e, c_e, ints .i64 (upd E (rd s j) ((rd E (rd s j)) - 1)), false⟩ :: R)) rfl ?_
  refine wd_nil (by kernel_rfl) ?_
  exact ⟨rfl, by rw [he]⟩

set_option maxRecDepth 100000 in
theorem layf_ct {B : Nat} {w0 : World} {R : List Row} {g_x : Nat} {A_s A_m A_c A_r : Option Addr} {c_s c_m c_c c_r : Nat} {s : List Int} {k : Int} {A_e : Option Addr} {n_e c_e : Nat} {row E : List Int} {j : Int} (h_x : RdC B w0 R (some ⟨g_x, 0, none⟩) 1 1 4 [.slice A_s s.length c_s, .slice A_m s.length c_m, .slice A_c k.toNat c_c, .slice A_r s.length c_r]) (h_s : RdC B w0 R A_s s.length c_s 1 (ints .i64 s)) (hk : 0 ≤ k ∧ k ≤ 1048576) (hN : s.length ≤ 1000000) (hj : 0 ≤ j ∧ j < s.length) (hc : 0 ≤ rd s j ∧ rd s j < k) (hl : row.length = s.length ∧ E.length = k.toNat ∧ n_e = k.toNat) (hv : 0 ≤ rd E (rd s j) ∧ rd E (rd s j) < s.length) :
    Ct Tryz.prog 364 #[.pointer (some ⟨g_x, 0, none⟩), .slice A_e n_e c_e, .int .i64 j] B w0 (⟨3, 1, A_r, s.length, c_r, ints .i64 row, false⟩ :: ⟨3, 1, A_e, n_e, c_e, ints .i64 E, false⟩ :: R) (fun v R' => v = .tuple #[] ∧ R' = ⟨3, 1, A_r, s.length, c_r, ints .i64 (upd row (rd E (rd s j)) j), false⟩ :: ⟨3, 1, A_e, n_e, c_e, ints .i64 (upd E (rd s j) ((rd E (rd s j)) + 1)), false⟩ :: R) := by
  refine fn0 Tryz.func364 rfl rfl rfl ?_
  obtain ⟨hl1, hl2, hl3⟩ := hl
  refine w_seq ?_
  refine w_regd mixed ?_
  refine wd_y 0 rfl (by kernel_rfl) rfl (y_move rfl) ?_
  refine wd_y 1 rfl (by kernel_rfl) rfl (y_nilCheck rfl) ?_
  refine wd_y 2 rfl (by kernel_rfl) rfl (y_fieldAt (off := 3) (m := 3) Tryz.underlying367 rfl sz24 rfl rfl rfl) ?_
  refine wd_y 3 rfl (by kernel_rfl) rfl (y_ldIn (RdC.right h_x [_, _]) Tryz.underlying24 rfl rfl rfl) ?_
  refine wd_y 4 rfl (by kernel_rfl) rfl (y_move rfl) ?_
  refine wd_y 5 rfl (by kernel_rfl) rfl (y_move rfl) ?_
  refine wd_y 6 rfl (by kernel_rfl) rfl (y_nilCheck rfl) ?_
  refine wd_y 7 rfl (by kernel_rfl) rfl (y_fieldAt (off := 0) (m := 0) Tryz.underlying367 rfl sz24 rfl rfl rfl) ?_
  refine wd_y 8 rfl (by kernel_rfl) rfl (y_ldIn (RdC.right h_x [_, _]) Tryz.underlying24 rfl rfl rfl) ?_
  refine wd_y 9 rfl (by kernel_rfl) rfl (y_move rfl) ?_
  refine wd_y 10 rfl (by kernel_rfl) rfl (y_index1 Tryz.underlying24 sz3 rfl rfl (RdC.right h_s [_, _]) (by omega) (by omega)) ?_
  refine wd_y 11 rfl (by kernel_rfl) rfl (y_ldI Tryz.underlying3 rfl rfl (RdC.right h_s [_, _]) (by omega) (by omega)) ?_
  refine wd_y 12 rfl (by kernel_rfl) rfl (y_index1 Tryz.underlying24 sz3 rfl rfl (rdr 1 rfl) (by omega) (by omega)) ?_
  refine wd_y 13 rfl (by kernel_rfl) rfl (y_ldI Tryz.underlying3 rfl rfl (rdr 1 rfl) (by omega) (by omega)) ?_
  refine wd_y 14 rfl (by kernel_rfl) rfl (y_move rfl) ?_
  refine wd_y 15 rfl (by kernel_rfl) rfl (y_index1 Tryz.underlying24 sz3 rfl rfl (rdr 0 rfl) (by omega) (by omega)) ?_
  refine wd_n 16 rfl (by kernel_rfl) (a_storeI 0 rfl sz3 rfl rfl (by omega) (by omega)) ?_
  rintro _ _ rfl
  refine ⟨.inl (by kernel_rfl), ?_⟩
  refine wd_rows (R1 := (⟨3, 1, A_r, s.length, c_r, ints .i64 (upd row (rd E (rd s j)) j), false⟩ :: ⟨3, 1, A_e, n_e, c_e, ints .i64 E, false⟩ :: R)) rfl ?_
  refine wd_nil (by kernel_rfl) ?_
  refine w_reg ?_
  refine wr_y rfl (y_move rfl) ?_
  refine wr_y rfl (y_move rfl) ?_
  refine wr_y rfl (y_nilCheck rfl) ?_
  refine wr_y rfl (y_fieldAt (off := 0) (m := 0) Tryz.underlying367 rfl sz24 rfl rfl rfl) ?_
  refine wr_y rfl (y_ldIn (RdC.right h_x [_, _]) Tryz.underlying24 rfl rfl rfl) ?_
  refine wr_y rfl (y_move rfl) ?_
  refine wr_y rfl (y_index1 Tryz.underlying24 sz3 rfl rfl (RdC.right h_s [_, _]) (by omega) (by omega)) ?_
  refine wr_y rfl (y_ldI Tryz.underlying3 rfl rfl (RdC.right h_s [_, _]) (by omega) (by omega)) ?_
  refine wr_y rfl (y_index1 Tryz.underlying24 sz3 rfl rfl (rdr 1 rfl) (by omega) (by omega)) ?_
  refine wr_y rfl (y_ldI Tryz.underlying3 rfl rfl (rdr 1 rfl) (by omega) (by omega)) ?_
  refine wr_y rfl (y_addI rfl rfl (by omega)) ?_
  refine wr_y rfl (y_index1 Tryz.underlying24 sz3 rfl rfl (rdr 1 rfl) (by omega) (by omega)) ?_
  refine wr_n (a_storeI 1 rfl sz3 rfl rfl (by omega) (by omega)) ?_
  rintro _ _ rfl
  refine wr_rows (R1 := (⟨3, 1, A_r, s.length, c_r, ints .i64 (upd row (rd E (rd s j)) j), false⟩ :: ⟨3, 1, A_e, n_e, c_e, ints .i64 (upd E (rd s j) ((rd E (rd s j)) + 1)), false⟩ :: R)) rfl ?_
  refine wr_nil ?_
  exact ⟨rfl, rfl⟩

set_option maxRecDepth 100000 in
theorem large_ct {B : Nat} {w0 : World} {R : List Row} {g_x : Nat} {A_s A_m A_c A_r : Option Addr} {c_s c_m c_c c_r : Nat} {s l : List Int} {k : Int} {row : List Int} (h_x : RdC B w0 R (some ⟨g_x, 0, none⟩) 1 1 4 [.slice A_s s.length c_s, .slice A_m s.length c_m, .slice A_c k.toNat c_c, .slice A_r s.length c_r]) (h_s : RdC B w0 R A_s s.length c_s 1 (ints .i64 s)) (h_m : RdC B w0 R A_m s.length c_m 1 (bools (smL s))) (h_c : RdC B w0 R A_c k.toNat c_c 1 (ints .i64 (cntV s k))) (hk : 0 ≤ k ∧ k ≤ 1048576) (hs : ∀ x ∈ s, 0 ≤ x ∧ x < k) (hN : s.length ≤ 1000000) (hp : l.Perm (fstL s)) (hn : 0 < s.length) (hrow : row = (itF s k l).1) :
    Ct Tryz.prog 343 #[.pointer (some ⟨g_x, 0, none⟩)] B w0 (⟨3, 1, A_r, s.length, c_r, ints .i64 row, false⟩ :: R) (fun v R' => v = .tuple #[] ∧ R' = ⟨3, 1, A_r, s.length, c_r, ints .i64 (itL s k l s.length).1, false⟩ :: R) := by
  refine fn0 Tryz.func343 rfl rfl rfl ?_
  have hcl : (cntV s k).length = k.toNat := cntV_len _ _
  have hsum : (cntV s k).sum = s.length := cnt_sum hk.1 hs
  have hSl : (startsV (cntV s k)).length = k.toNat := by rw [startsV_len, hcl]
  obtain ⟨f1, f2, f3, f4, f5, f6⟩ := fL0 hk.1 hs hp hn hrow (rfl : startsV (cntV s k) = _)
  refine w_seq ?_
  refine w_reg ?_
  refine wr_y rfl (y_move rfl) ?_
  refine wr_y rfl (y_nilCheck rfl) ?_
  refine wr_y rfl (y_fieldAt (off := 2) (m := 2) Tryz.underlying367 rfl sz24 rfl rfl rfl) ?_
  refine wr_y rfl (y_ldIn (RdC.right h_x [_]) Tryz.underlying24 rfl rfl rfl) ?_
  refine wr_a rfl (a_callF en236 rfl (Ct.fresh (fun w hw => starts_ct ((RdC.right h_c [_]) w hw) (cntV_nonneg _ _) (by rw [hsum]; omega) (by rw [hcl]; omega)))) ?_
  rintro _ _ ⟨_, rfl, A_1, c_2, rfl, rfl⟩
  refine wr_y rfl (y_assign rfl) ?_
  refine wr_nil ?_
  refine w_seq ?_
  refine w_reg ?_
  refine wr_y rfl (y_move rfl) ?_
  refine wr_y rfl (y_move rfl) ?_
  refine wr_y rfl (y_move rfl) ?_
  refine wr_y rfl (y_nilCheck rfl) ?_
  refine wr_y rfl (y_fieldAt (off := 0) (m := 0) Tryz.underlying367 rfl sz24 rfl rfl rfl) ?_
  refine wr_y rfl (y_ldIn (RdC.right h_x [_, _]) Tryz.underlying24 rfl rfl rfl) ?_
  refine wr_y rfl (y_len Tryz.underlying24 rfl) ?_
  refine wr_y rfl (y_subI rfl rfl (by omega)) ?_
  refine wr_sub (R1 := (⟨3, 1, A_r, s.length, c_r, ints .i64 row, false⟩ :: ⟨3, 1, A_1, (startsV (cntV s k)).length, c_2, ints .i64 (startsV (cntV s k)), false⟩ :: R)) (Sub.refl _) (fun _ h => h.selR (F := [_, _]) (F' := [_, _]) [1, 0] (by decide) rfl) ?_
  refine wr_a rfl (a_callF en364 rfl (layf_ct (row := row) (E := (startsV (cntV s k))) (j := (((s.length : Nat) : Int) - 1)) (RdC.right h_x []) (RdC.right h_s []) hk hN ⟨by omega, by omega⟩ f1 ⟨f3.1, f3.2, by rw [startsV_len, hcl]⟩ f2)) ?_
  rintro _ _ ⟨rfl, rfl⟩
  refine wr_rows (R1 := (⟨3, 1, A_r, s.length, c_r, ints .i64 (upd row (rd (startsV (cntV s k)) (rd s (((s.length : Nat) : Int) - 1))) (((s.length : Nat) : Int) - 1)), false⟩ :: ⟨3, 1, A_1, (startsV (cntV s k)).length, c_2, ints .i64 (upd (startsV (cntV s k)) (rd s (((s.length : Nat) : Int) - 1)) ((rd (startsV (cntV s k)) (rd s (((s.length : Nat) : Int) - 1))) + 1)), false⟩ :: R)) rfl ?_
  refine wr_nil ?_
  refine w_seq ?_
  refine w_reg ?_
  refine wr_y rfl (y_move rfl) ?_
  refine wr_y rfl (y_nilCheck rfl) ?_
  refine wr_y rfl (y_fieldAt (off := 3) (m := 3) Tryz.underlying367 rfl sz24 rfl rfl rfl) ?_
  refine wr_y rfl (y_ldIn (RdC.right h_x [_, _]) Tryz.underlying24 rfl rfl rfl) ?_
  refine wr_y rfl (y_len Tryz.underlying24 rfl) ?_
  refine wr_y rfl (y_move rfl) ?_
  refine wr_nil ?_
  refine w_block ?_
  refine w_loop3 (fun (i : Int) (D : List Int) (H : List Int) => [(0, .pointer (some ⟨g_x, 0, none⟩)), (2, .slice A_1 ((startsV (cntV s k)).length) c_2), (23, .int .i64 ((s.length : Nat) : Int)), (24, .int .i64 i)]) (fun (i : Int) (D : List Int) (H : List Int) => (⟨3, 1, A_r, s.length, c_r, ints .i64 D, false⟩ :: ⟨3, 1, A_1, (startsV (cntV s k)).length, c_2, ints .i64 H, false⟩ :: R)) (fun (i : Int) (D : List Int) (H : List Int) => (0 ≤ i) ∧ (i ≤ s.length) ∧ (D = (itL s k l i.toNat).1) ∧ (H = (itL s k l i.toNat).2)) (fun (i : Int) (D : List Int) (H : List Int) => (s.length - i).toNat) ?_ ?_
  ·
    exact ⟨0, upd row (rd (startsV (cntV s k)) (rd s (((s.length : Nat) : Int) - 1))) (((s.length : Nat) : Int) - 1), upd (startsV (cntV s k)) (rd s (((s.length : Nat) : Int) - 1)) ((rd (startsV (cntV s k)) (rd s (((s.length : Nat) : Int) - 1))) + 1), ⟨(by omega), (by omega), (f4), (f5)⟩, (Sub.cons rfl (Sub.cons rfl (Sub.cons rfl (Sub.cons rfl Sub.nil)))), fun _ h => h⟩
  intro i D H ⟨hi0, hi1, hD, hH⟩
  refine w_seq ?_
  refine w_reg ?_
  refine wr_y rfl (y_lt rfl rfl) ?_
  refine wr_nil ?_
  refine w_seq ?_
  refine w_if rfl (fun hc1 => ?_) (fun hc1 => ?_)
  ·
    have hf := fLeZ hk.1 hs hp hn hi0 (by omega) hD hH
    have hf1 := hf.1
    refine w_skip ?_
    refine w_seq ?_
    refine w_block ?_
    refine w_seq ?_
    refine w_reg ?_
    refine wr_y rfl (y_move rfl) ?_
    refine wr_y rfl (y_assign rfl) ?_
    refine wr_nil ?_
    refine w_seq ?_
    refine w_reg ?_
    refine wr_y rfl (y_move rfl) ?_
    refine wr_y rfl (y_nilCheck rfl) ?_
    refine wr_y rfl (y_fieldAt (off := 3) (m := 3) Tryz.underlying367 rfl sz24 rfl rfl rfl) ?_
    refine wr_y rfl (y_ldIn (RdC.right h_x [_, _]) Tryz.underlying24 rfl rfl rfl) ?_
    refine wr_y rfl (y_move rfl) ?_
    refine wr_y rfl (y_index1 Tryz.underlying24 sz3 rfl rfl (rdr 0 rfl) (by omega) (by omega)) ?_
    refine wr_y rfl (y_ldI Tryz.underlying3 rfl rfl (rdr 0 rfl) (by omega) (by omega)) ?_
    refine wr_y rfl (y_assign rfl) ?_
    refine wr_nil ?_
    refine w_seq ?_
    refine w_reg ?_
    refine wr_y rfl (y_move rfl) ?_
    refine wr_y rfl (y_gt rfl rfl) ?_
    refine wr_y rfl (y_move rfl) ?_
    refine wr_mid 10 [(0, .pointer (some ⟨g_x, 0, none⟩)), (2, .slice A_1 ((startsV (cntV s k)).length) c_2), (4, .int .i64 (rd D i)), (23, .int .i64 ((s.length : Nat) : Int)), (24, .int .i64 i), (46, .bool (decide ((0 < (rd D i)) ∧ (¬ (rdb (smL s) ((rd D i) - 1) = true)))))] (⟨3, 1, A_r, s.length, c_r, ints .i64 D, false⟩ :: ⟨3, 1, A_1, (startsV (cntV s k)).length, c_2, ints .i64 H, false⟩ :: R) ?_ ?_
    ·
      refine wr_case 36 rfl (fun hc2 => ?_) (fun hc2 => ?_)
      ·
        refine wr_yes rfl rfl ?_
        refine wr_y rfl (y_move rfl) ?_
        refine wr_yes rfl rfl ?_
        refine wr_y rfl (y_nilCheck rfl) ?_
        refine wr_yes rfl rfl ?_
        refine wr_y rfl (y_fieldAt (off := 1) (m := 1) Tryz.underlying367 rfl sz215 rfl rfl rfl) ?_
        refine wr_yes rfl rfl ?_
        refine wr_y rfl (y_ldIn (RdC.right h_x [_, _]) Tryz.underlying215 rfl rfl rfl) ?_
        refine wr_yes rfl rfl ?_
        refine wr_y rfl (y_move rfl) ?_
        refine wr_yes rfl rfl ?_
        refine wr_y rfl (y_subI rfl rfl (by omega)) ?_
        refine wr_yes rfl rfl ?_
        refine wr_y rfl (y_index1 Tryz.underlying215 sz4 rfl rfl (RdC.right h_m [_, _]) (by omega) (by omega)) ?_
        refine wr_yes rfl rfl ?_
        refine wr_y rfl (y_ldB Tryz.underlying4 rfl rfl (RdC.right h_m [_, _]) (by omega) (by omega)) ?_
        refine wr_yes rfl rfl ?_
        refine wr_y rfl (y_notD rfl) ?_
        refine wr_y rfl (y_pickT rfl rfl) ?_
        refine wr_nil ?_
        exact ⟨(Sub.cons rfl (Sub.cons rfl (Sub.cons rfl (Sub.cons rfl (Sub.cons rfl (Sub.to rfl (mb (by first | omega | exact ⟨fun h => ⟨(by assumption), h⟩, fun h => h.2⟩ | exact .inl (by assumption) | exact ⟨.inr, fun h => h.resolve_left (by assumption)⟩ | exact ⟨fun h => h.resolve_left (by assumption), .inr⟩ | simp [*])) Sub.nil)))))), fun _ h => h⟩
      ·
        refine wr_no rfl rfl rfl rfl ?_
        refine wr_no rfl rfl rfl rfl ?_
        refine wr_no rfl rfl rfl rfl ?_
        refine wr_no rfl rfl rfl rfl ?_
        refine wr_no rfl rfl rfl rfl ?_
        refine wr_no rfl rfl rfl rfl ?_
        refine wr_no rfl rfl rfl rfl ?_
        refine wr_no rfl rfl rfl rfl ?_
        refine wr_no rfl rfl rfl rfl ?_
        refine wr_y rfl (y_pickF rfl rfl) ?_
        refine wr_nil ?_
        exact ⟨(Sub.cons rfl (Sub.cons rfl (Sub.cons rfl (Sub.cons rfl (Sub.cons rfl (Sub.to rfl (mb_f (by first | omega | exact ⟨fun h => ⟨(by assumption), h⟩, fun h => h.2⟩ | exact .inl (by assumption) | exact ⟨.inr, fun h => h.resolve_left (by assumption)⟩ | exact ⟨fun h => h.resolve_left (by assumption), .inr⟩ | simp [*])) Sub.nil)))))), fun _ h => h⟩
    refine wr_nil ?_
    refine w_if rfl (fun hc3 => ?_) (fun hc3 => ?_)
    ·
      obtain ⟨g1, g2, g3, g4, g5⟩ := fLZ hk.1 hs hp hn hi0 (by omega) hD hH hc3
      refine w_reg ?_
      refine wr_y rfl (y_move rfl) ?_
      refine wr_y rfl (y_move rfl) ?_
      refine wr_y rfl (y_move rfl) ?_
      refine wr_y rfl (y_subI rfl rfl (by omega)) ?_
      refine wr_a rfl (a_callF en364 rfl (layf_ct (row := D) (E := H) (j := ((rd D i) - 1)) (RdC.right h_x []) (RdC.right h_s []) hk hN ⟨by omega, by omega⟩ g2 ⟨hf.2.1, hf.2.2, by rw [startsV_len, hcl]⟩ g3)) ?_
      rintro _ _ ⟨rfl, rfl⟩
      refine wr_rows (R1 := (⟨3, 1, A_r, s.length, c_r, ints .i64 (upd D (rd H (rd s ((rd D i) - 1))) ((rd D i) - 1)), false⟩ :: ⟨3, 1, A_1, (startsV (cntV s k)).length, c_2, ints .i64 (upd H (rd s ((rd D i) - 1)) ((rd H (rd s ((rd D i) - 1))) + 1)), false⟩ :: R)) rfl ?_
      refine wr_nil ?_
      refine w_reg ?_
      refine wr_y rfl (y_addI rfl rfl (by omega)) ?_
      refine wr_y rfl (y_move rfl) ?_
      refine wr_nil ?_
      exact ⟨i + 1, upd D (rd H (rd s ((rd D i) - 1))) ((rd D i) - 1), upd H (rd s ((rd D i) - 1)) ((rd H (rd s ((rd D i) - 1))) + 1), ⟨(by omega), (by omega), (g4), (g5)⟩, (by omega), (Sub.cons rfl (Sub.cons rfl (Sub.cons rfl (Sub.cons rfl Sub.nil)))), fun _ h => h⟩
    ·
      have g4 := fLsZ hk.1 hs hp hn hi0 (by omega) hD hH hc3
      refine w_skip ?_
      refine w_reg ?_
      refine wr_y rfl (y_addI rfl rfl (by omega)) ?_
      refine wr_y rfl (y_move rfl) ?_
      refine wr_nil ?_
      exact ⟨i + 1, D, H, ⟨(by omega), (by omega), (g4.1), (g4.2)⟩, (by omega), (Sub.cons rfl (Sub.cons rfl (Sub.cons rfl (Sub.cons rfl Sub.nil)))), fun _ h => h⟩
  ·
    refine w_sub (R1 := (⟨3, 1, A_r, s.length, c_r, ints .i64 D, false⟩ :: R)) (Sub.refl _) (fun _ h => h.selR (F := [_, _]) (F' := [_]) [0] (by decide) rfl) ?_
    have hie : i.toNat = s.length := by omega
    rw [hie] at hD
    subst hD
    refine w_exit ?_
    exact ⟨rfl, rfl⟩

theorem cl_C {s D : List Int} {q : Int} (hent : rd D q = -1 ∨ (0 ≤ rd D q ∧ rd D q < s.length)) : (0 ≤ rd D q ∧ rdb (smL s) (rd D q) = true) ↔ (0 ≤ rd D q ∧ smB s (rd D q) = true) := by
  constructor <;> rintro ⟨h1, h2⟩ <;> refine ⟨h1, ?_⟩
  · rwa [rdb_smL h1 (by omega)] at h2
  · rwa [rdb_smL h1 (by omega)]
theorem clr_ent {s l D : List Int} {k q : Int} (hk : 0 ≤ k) (hs : ∀ x ∈ s, 0 ≤ x ∧ x < k) (hp : l.Perm (fstL s)) (hn : 0 < s.length) (q0 : 0 ≤ q) (hq : q < s.length) (hD : D = clrP s (itL s k l s.length).1 q) : rd D q = -1 ∨ (0 ≤ rd D q ∧ rd D q < s.length) := by
  rw [hD, rd_clrP q0 (Int.le_refl _) q0 (by rw [itL_len hk hs hp hn]; omega)]
  exact clr_mem hk hs hp hn q0 hq
theorem clr_done {s l D : List Int} {k q : Int} (hk : 0 ≤ k) (hs : ∀ x ∈ s, 0 ≤ x ∧ x < k) (hp : l.Perm (fstL s)) (hn : 0 < s.length) (hq : (s.length : Int) ≤ q) (hD : D = clrP s (itL s k l s.length).1 q) : D = (itS s k l 0).1 := by
  rw [hD, clrP_all (by rw [itL_len hk hs hp hn]; exact hq)]
  rfl
set_option maxRecDepth 100000 in
theorem smalls_ct {B : Nat} {w0 : World} {R : List Row} {g_x : Nat} {A_s A_m A_c A_r : Option Addr} {c_s c_m c_c c_r : Nat} {s l : List Int} {k : Int} (h_x : RdC B w0 R (some ⟨g_x, 0, none⟩) 1 1 4 [.slice A_s s.length c_s, .slice A_m s.length c_m, .slice A_c k.toNat c_c, .slice A_r s.length c_r]) (h_s : RdC B w0 R A_s s.length c_s 1 (ints .i64 s)) (h_m : RdC B w0 R A_m s.length c_m 1 (bools (smL s))) (h_c : RdC B w0 R A_c k.toNat c_c 1 (ints .i64 (cntV s k))) (hk : 0 ≤ k ∧ k ≤ 1048576) (hs : ∀ x ∈ s, 0 ≤ x ∧ x < k) (hN : s.length ≤ 1000000) (hp : l.Perm (fstL s)) (hn : 0 < s.length) :
    Ct Tryz.prog 344 #[.pointer (some ⟨g_x, 0, none⟩)] B w0 (⟨3, 1, A_r, s.length, c_r, ints .i64 ((itL s k l s.length).1), false⟩ :: R) (fun v R' => v = .tuple #[] ∧ R' = ⟨3, 1, A_r, s.length, c_r, ints .i64 (indS s k l), false⟩ :: R) := by
  refine fn0 Tryz.func344 rfl rfl rfl ?_
  have hLl := itL_len hk.1 hs hp hn
  refine w_seq ?_
  refine w_seq ?_
  refine w_reg ?_
  refine wr_y rfl (y_move rfl) ?_
  refine wr_y rfl (y_nilCheck rfl) ?_
  refine wr_y rfl (y_fieldAt (off := 3) (m := 3) Tryz.underlying367 rfl sz24 rfl rfl rfl) ?_
  refine wr_y rfl (y_ldIn (RdC.right h_x [_]) Tryz.underlying24 rfl rfl rfl) ?_
  refine wr_y rfl (y_len Tryz.underlying24 rfl) ?_
  refine wr_y rfl (y_move rfl) ?_
  refine wr_nil ?_
  refine w_block ?_
  refine w_loop2 (fun (q : Int) (D : List Int) => [(0, .pointer (some ⟨g_x, 0, none⟩)), (10, .slice A_r s.length c_r), (11, .int .i64 ((s.length : Nat) : Int)), (12, .int .i64 q)]) (fun (q : Int) (D : List Int) => (⟨3, 1, A_r, s.length, c_r, ints .i64 D, false⟩ :: R)) (fun (q : Int) (D : List Int) => (0 ≤ q) ∧ (q ≤ s.length) ∧ (D = clrP s (itL s k l s.length).1 q)) (fun (q : Int) (D : List Int) => (s.length - q).toNat) ?_ ?_
  ·
    exact ⟨0, (itL s k l s.length).1, ⟨(by omega), (by omega), (clrP_zero.symm)⟩, (Sub.cons rfl (Sub.cons rfl (Sub.cons rfl (Sub.cons rfl Sub.nil)))), fun _ h => h⟩
  intro q D ⟨hq0, hq1, hD⟩
  refine w_seq ?_
  refine w_reg ?_
  refine wr_y rfl (y_lt rfl rfl) ?_
  refine wr_nil ?_
  refine w_seq ?_
  refine w_if rfl (fun hc1 => ?_) (fun hc1 => ?_)
  ·
    have hf1 := clr_ent hk.1 hs hp hn hq0 (by omega) hD
    have hDl : D.length = s.length := by rw [hD, clrP_len, itL_len hk.1 hs hp hn]
    refine w_skip ?_
    refine w_seq ?_
    refine w_block ?_
    refine w_seq ?_
    refine w_reg ?_
    refine wr_y rfl (y_move rfl) ?_
    refine wr_y rfl (y_index1 Tryz.underlying24 sz3 rfl rfl (rdr 0 rfl) (by omega) (by omega)) ?_
    refine wr_y rfl (y_ldI Tryz.underlying3 rfl rfl (rdr 0 rfl) (by omega) (by omega)) ?_
    refine wr_y rfl (y_assign rfl) ?_
    refine wr_y rfl (y_assign rfl) ?_
    refine wr_nil ?_
    refine w_seq ?_
    refine w_reg ?_
    refine wr_y rfl (y_move rfl) ?_
    refine wr_y rfl (y_ge rfl rfl) ?_
    refine wr_y rfl (y_move rfl) ?_
    refine wr_mid 8 [(0, .pointer (some ⟨g_x, 0, none⟩)), (2, .int .i64 q), (10, .slice A_r s.length c_r), (11, .int .i64 ((s.length : Nat) : Int)), (12, .int .i64 q), (27, .bool (decide ((0 ≤ (rd D q)) ∧ (rdb (smL s) (rd D q) = true))))] (⟨3, 1, A_r, s.length, c_r, ints .i64 D, false⟩ :: R) ?_ ?_
    ·
      refine wr_case 19 rfl (fun hc2 => ?_) (fun hc2 => ?_)
      ·
        refine wr_yes rfl rfl ?_
        refine wr_y rfl (y_move rfl) ?_
        refine wr_yes rfl rfl ?_
        refine wr_y rfl (y_nilCheck rfl) ?_
        refine wr_yes rfl rfl ?_
        refine wr_y rfl (y_fieldAt (off := 1) (m := 1) Tryz.underlying367 rfl sz215 rfl rfl rfl) ?_
        refine wr_yes rfl rfl ?_
        refine wr_y rfl (y_ldIn (RdC.right h_x [_]) Tryz.underlying215 rfl rfl rfl) ?_
        refine wr_yes rfl rfl ?_
        refine wr_y rfl (y_move rfl) ?_
        refine wr_yes rfl rfl ?_
        refine wr_y rfl (y_index1 Tryz.underlying215 sz4 rfl rfl (RdC.right h_m [_]) (by omega) (by omega)) ?_
        refine wr_yes rfl rfl ?_
        refine wr_y rfl (y_ldB Tryz.underlying4 rfl rfl (RdC.right h_m [_]) (by omega) (by omega)) ?_
        refine wr_y rfl (y_pickT rfl rfl) ?_
        refine wr_nil ?_
        exact ⟨(Sub.cons rfl (Sub.cons rfl (Sub.cons rfl (Sub.cons rfl (Sub.cons rfl (Sub.to rfl (mb (by first | omega | exact ⟨fun h => ⟨(by assumption), h⟩, fun h => h.2⟩ | exact .inl (by assumption) | exact ⟨.inr, fun h => h.resolve_left (by assumption)⟩ | exact ⟨fun h => h.resolve_left (by assumption), .inr⟩ | simp [*])) Sub.nil)))))), fun _ h => h⟩
      ·
        refine wr_no rfl rfl rfl rfl ?_
        refine wr_no rfl rfl rfl rfl ?_
        refine wr_no rfl rfl rfl rfl ?_
        refine wr_no rfl rfl rfl rfl ?_
        refine wr_no rfl rfl rfl rfl ?_
        refine wr_no rfl rfl rfl rfl ?_
        refine wr_no rfl rfl rfl rfl ?_
        refine wr_y rfl (y_pickF rfl rfl) ?_
        refine wr_nil ?_
        exact ⟨(Sub.cons rfl (Sub.cons rfl (Sub.cons rfl (Sub.cons rfl (Sub.cons rfl (Sub.to rfl (mb_f (by first | omega | exact ⟨fun h => ⟨(by assumption), h⟩, fun h => h.2⟩ | exact .inl (by assumption) | exact ⟨.inr, fun h => h.resolve_left (by assumption)⟩ | exact ⟨fun h => h.resolve_left (by assumption), .inr⟩ | simp [*])) Sub.nil)))))), fun _ h => h⟩
    refine wr_nil ?_
    refine w_if rfl (fun hc3 => ?_) (fun hc3 => ?_)
    ·
      refine w_reg ?_
      refine wr_y rfl (y_move rfl) ?_
      refine wr_y rfl (y_nilCheck rfl) ?_
      refine wr_y rfl (y_fieldAt (off := 3) (m := 3) Tryz.underlying367 rfl sz24 rfl rfl rfl) ?_
      refine wr_y rfl (y_ldIn (RdC.right h_x [_]) Tryz.underlying24 rfl rfl rfl) ?_
      refine wr_y rfl (y_move rfl) ?_
      refine wr_y rfl (y_index1 Tryz.underlying24 sz3 rfl rfl (rdr 0 rfl) (by omega) (by omega)) ?_
      refine wr_n (a_storeI 0 rfl sz3 rfl rfl (by omega) (by omega)) ?_
      rintro _ _ rfl
      refine wr_rows (R1 := (⟨3, 1, A_r, s.length, c_r, ints .i64 (upd D q (-1)), false⟩ :: R)) rfl ?_
      refine wr_nil ?_
      refine w_reg ?_
      refine wr_y rfl (y_addI rfl rfl (by omega)) ?_
      refine wr_y rfl (y_move rfl) ?_
      refine wr_nil ?_
      exact ⟨q + 1, upd D q (-1), ⟨(by omega), (by omega), (by rw [hD]; exact clr_yes hq0 (by omega) (by rw [← hD]; exact (cl_C hf1).1 hc3))⟩, (by omega), (Sub.cons rfl (Sub.cons rfl (Sub.cons rfl (Sub.cons rfl Sub.nil)))), fun _ h => h⟩
    ·
      refine w_skip ?_
      refine w_reg ?_
      refine wr_y rfl (y_addI rfl rfl (by omega)) ?_
      refine wr_y rfl (y_move rfl) ?_
      refine wr_nil ?_
      exact ⟨q + 1, D, ⟨(by omega), (by omega), (by rw [hD]; exact clr_no hq0 (by omega) (by rw [← hD]; exact fun h => hc3 ((cl_C hf1).2 h)))⟩, (by omega), (Sub.cons rfl (Sub.cons rfl (Sub.cons rfl (Sub.cons rfl Sub.nil)))), fun _ h => h⟩
  ·
    have hD0 := clr_done hk.1 hs hp hn (by omega) hD
    refine w_exit ?_
    refine w_seq ?_
    refine w_reg ?_
    refine wr_y rfl (y_move rfl) ?_
    refine wr_a rfl (a_callF en341 rfl (ends_ct (RdC.right h_x [_]) (RdC.right h_c [_]) hk hs hN)) ?_
    rintro _ _ ⟨A_1, c_2, rfl, rfl⟩
    refine wr_y rfl (y_assign rfl) ?_
    refine wr_nil ?_
    refine w_seq ?_
    refine w_reg ?_
    refine wr_y rfl (y_move rfl) ?_
    refine wr_y rfl (y_nilCheck rfl) ?_
    refine wr_y rfl (y_fieldAt (off := 3) (m := 3) Tryz.underlying367 rfl sz24 rfl rfl rfl) ?_
    refine wr_y rfl (y_ldIn (RdC.right h_x [_, _]) Tryz.underlying24 rfl rfl rfl) ?_
    refine wr_y rfl (y_len Tryz.underlying24 rfl) ?_
    refine wr_y rfl (y_subI rfl rfl (by omega)) ?_
    refine wr_y rfl (y_assign rfl) ?_
    refine wr_nil ?_
    refine w_block ?_
    refine w_loop3 (fun (i : Int) (D : List Int) (H : List Int) => [(0, .pointer (some ⟨g_x, 0, none⟩)), (4, .slice A_1 k.toNat c_2), (5, .int .i64 i)]) (fun (i : Int) (D : List Int) (H : List Int) => (⟨3, 1, A_1, k.toNat, c_2, ints .i64 H, false⟩ :: ⟨3, 1, A_r, s.length, c_r, ints .i64 D, false⟩ :: R)) (fun (i : Int) (D : List Int) (H : List Int) => (-1 ≤ i) ∧ (i < s.length) ∧ (D = (itS s k l (s.length - 1 - i).toNat).1) ∧ (H = (itS s k l (s.length - 1 - i).toNat).2)) (fun (i : Int) (D : List Int) (H : List Int) => (i + 1).toNat) ?_ ?_
    ·
      exact ⟨((s.length : Nat) : Int) - 1, D, endsV (cntV s k), ⟨(by omega), (by omega), (by rw [show ((s.length : Int) - 1 - (((s.length : Nat) : Int) - 1)).toNat = 0 by omega]; exact hD0), (by rw [show ((s.length : Int) - 1 - (((s.length : Nat) : Int) - 1)).toNat = 0 by omega]; rfl)⟩, (Sub.cons rfl (Sub.cons rfl (Sub.cons rfl Sub.nil))), fun _ h => h⟩
    intro i D H ⟨hi0, hi1, hD, hH⟩
    refine w_seq ?_
    refine w_seq ?_
    refine w_reg ?_
    refine wr_y rfl (y_move rfl) ?_
    refine wr_y rfl (y_ge rfl rfl) ?_
    refine wr_nil ?_
    refine w_if rfl (fun hc4 => ?_) (fun hc4 => ?_)
    ·
      have hf := fSeZ hk.1 hs hp hn (by omega) (by omega) hD hH
      have hf1 := hf.1
      refine w_skip ?_
      refine w_seq ?_
      refine w_block ?_
      refine w_seq ?_
      refine w_reg ?_
      refine wr_y rfl (y_move rfl) ?_
      refine wr_y rfl (y_nilCheck rfl) ?_
      refine wr_y rfl (y_fieldAt (off := 3) (m := 3) Tryz.underlying367 rfl sz24 rfl rfl rfl) ?_
      refine wr_y rfl (y_ldIn (RdC.right h_x [_, _]) Tryz.underlying24 rfl rfl rfl) ?_
      refine wr_y rfl (y_move rfl) ?_
      refine wr_y rfl (y_index1 Tryz.underlying24 sz3 rfl rfl (rdr 1 rfl) (by omega) (by omega)) ?_
      refine wr_y rfl (y_ldI Tryz.underlying3 rfl rfl (rdr 1 rfl) (by omega) (by omega)) ?_
      refine wr_y rfl (y_assign rfl) ?_
      refine wr_nil ?_
      refine w_seq ?_
      refine w_reg ?_
      refine wr_y rfl (y_move rfl) ?_
      refine wr_y rfl (y_gt rfl rfl) ?_
      refine wr_y rfl (y_move rfl) ?_
      refine wr_mid 9 [(0, .pointer (some ⟨g_x, 0, none⟩)), (4, .slice A_1 k.toNat c_2), (5, .int .i64 i), (6, .int .i64 (rd D i)), (65, .bool (decide ((0 < (rd D i)) ∧ (rdb (smL s) ((rd D i) - 1) = true))))] (⟨3, 1, A_1, k.toNat, c_2, ints .i64 H, false⟩ :: ⟨3, 1, A_r, s.length, c_r, ints .i64 D, false⟩ :: R) ?_ ?_
      ·
        refine wr_case 56 rfl (fun hc5 => ?_) (fun hc5 => ?_)
        ·
          refine wr_yes rfl rfl ?_
          refine wr_y rfl (y_move rfl) ?_
          refine wr_yes rfl rfl ?_
          refine wr_y rfl (y_nilCheck rfl) ?_
          refine wr_yes rfl rfl ?_
          refine wr_y rfl (y_fieldAt (off := 1) (m := 1) Tryz.underlying367 rfl sz215 rfl rfl rfl) ?_
          refine wr_yes rfl rfl ?_
          refine wr_y rfl (y_ldIn (RdC.right h_x [_, _]) Tryz.underlying215 rfl rfl rfl) ?_
          refine wr_yes rfl rfl ?_
          refine wr_y rfl (y_move rfl) ?_
          refine wr_yes rfl rfl ?_
          refine wr_y rfl (y_subI rfl rfl (by omega)) ?_
          refine wr_yes rfl rfl ?_
          refine wr_y rfl (y_index1 Tryz.underlying215 sz4 rfl rfl (RdC.right h_m [_, _]) (by omega) (by omega)) ?_
          refine wr_yes rfl rfl ?_
          refine wr_y rfl (y_ldB Tryz.underlying4 rfl rfl (RdC.right h_m [_, _]) (by omega) (by omega)) ?_
          refine wr_y rfl (y_pickT rfl rfl) ?_
          refine wr_nil ?_
          exact ⟨(Sub.cons rfl (Sub.cons rfl (Sub.cons rfl (Sub.cons rfl (Sub.to rfl (mb (by first | omega | exact ⟨fun h => ⟨(by assumption), h⟩, fun h => h.2⟩ | exact .inl (by assumption) | exact ⟨.inr, fun h => h.resolve_left (by assumption)⟩ | exact ⟨fun h => h.resolve_left (by assumption), .inr⟩ | simp [*])) Sub.nil))))), fun _ h => h⟩
        ·
          refine wr_no rfl rfl rfl rfl ?_
          refine wr_no rfl rfl rfl rfl ?_
          refine wr_no rfl rfl rfl rfl ?_
          refine wr_no rfl rfl rfl rfl ?_
          refine wr_no rfl rfl rfl rfl ?_
          refine wr_no rfl rfl rfl rfl ?_
          refine wr_no rfl rfl rfl rfl ?_
          refine wr_no rfl rfl rfl rfl ?_
          refine wr_y rfl (y_pickF rfl rfl) ?_
          refine wr_nil ?_
          exact ⟨(Sub.cons rfl (Sub.cons rfl (Sub.cons rfl (Sub.cons rfl (Sub.to rfl (mb_f (by first | omega | exact ⟨fun h => ⟨(by assumption), h⟩, fun h => h.2⟩ | exact .inl (by assumption) | exact ⟨.inr, fun h => h.resolve_left (by assumption)⟩ | exact ⟨fun h => h.resolve_left (by assumption), .inr⟩ | simp [*])) Sub.nil))))), fun _ h => h⟩
      refine wr_nil ?_
      refine w_if rfl (fun hc6 => ?_) (fun hc6 => ?_)
      ·
        obtain ⟨g1, g2, g3, g4, g5⟩ := fSZ hk.1 hs hp hn (by omega) (by omega) hD hH hc6
        refine w_reg ?_
        refine wr_y rfl (y_move rfl) ?_
        refine wr_y rfl (y_move rfl) ?_
        refine wr_y rfl (y_move rfl) ?_
        refine wr_y rfl (y_subI rfl rfl (by omega)) ?_
        refine wr_sub (R1 := (⟨3, 1, A_r, s.length, c_r, ints .i64 D, false⟩ :: ⟨3, 1, A_1, k.toNat, c_2, ints .i64 H, false⟩ :: R)) (Sub.refl _) (fun _ h => h.selR (F := [_, _]) (F' := [_, _]) [1, 0] (by decide) rfl) ?_
        refine wr_a rfl (a_callF en342 rfl (lay_ct (row := D) (E := H) (j := ((rd D i) - 1)) (RdC.right h_x []) (RdC.right h_s []) hk hN ⟨by omega, by omega⟩ g2 ⟨hf.2.1, hf.2.2, rfl⟩ g3)) ?_
        rintro _ _ ⟨rfl, rfl⟩
        refine wr_rows (R1 := (⟨3, 1, A_r, s.length, c_r, ints .i64 (upd D ((rd H (rd s ((rd D i) - 1))) - 1) ((rd D i) - 1)), false⟩ :: ⟨3, 1, A_1, k.toNat, c_2, ints .i64 (upd H (rd s ((rd D i) - 1)) ((rd H (rd s ((rd D i) - 1))) - 1)), false⟩ :: R)) rfl ?_
        refine wr_nil ?_
        refine w_reg ?_
        refine wr_y rfl (y_move rfl) ?_
        refine wr_y rfl (y_subI rfl rfl (by omega)) ?_
        refine wr_y rfl (y_assign rfl) ?_
        refine wr_nil ?_
        exact ⟨i - 1, upd D ((rd H (rd s ((rd D i) - 1))) - 1) ((rd D i) - 1), upd H (rd s ((rd D i) - 1)) ((rd H (rd s ((rd D i) - 1))) - 1), ⟨(by omega), (by omega), (g4), (g5)⟩, (by omega), (Sub.cons rfl (Sub.cons rfl (Sub.cons rfl Sub.nil))), fun _ h => h.selR (F := [_, _]) (F' := [_, _]) [1, 0] (by decide) rfl⟩
      ·
        have g4 := fSsZ hk.1 hs hp hn (by omega) (by omega) hD hH hc6
        refine w_skip ?_
        refine w_reg ?_
        refine wr_y rfl (y_move rfl) ?_
        refine wr_y rfl (y_subI rfl rfl (by omega)) ?_
        refine wr_y rfl (y_assign rfl) ?_
        refine wr_nil ?_
        exact ⟨i - 1, D, H, ⟨(by omega), (by omega), (g4.1), (g4.2)⟩, (by omega), (Sub.cons rfl (Sub.cons rfl (Sub.cons rfl Sub.nil))), fun _ h => h⟩
    ·
      refine w_sub (R1 := (⟨3, 1, A_r, s.length, c_r, ints .i64 D, false⟩ :: R)) (Sub.refl _) (fun _ h => h.selR (F := [_, _]) (F' := [_]) [1] (by decide) rfl) ?_
      have hie : ((s.length : Int) - 1 - i).toNat = s.length := by omega
      rw [hie] at hD
      subst hD
      refine w_exit ?_
      exact ⟨rfl, rfl⟩

theorem fstL_sorted (s : List Int) : (fstL s).Pairwise (· ≤ ·) := by
  unfold fstL iota
  exact ((List.pairwise_map.2 (List.pairwise_lt_range.imp fun h => by omega)).sublist List.filter_sublist)
theorem sortL_fst {s l : List Int} : sortL l = fstL s ↔ l.Perm (fstL s) := by
  constructor
  · intro h
    rw [← h]
    exact (sortL_perm l).symm
  · intro h
    exact ((sortL_perm l).trans h).eq_of_pairwise (fun a b _ _ h1 h2 => Int.le_antisymm h1 h2) (sortL_sorted l) (fstL_sorted s)
theorem fFZ {s l D H : List Int} {k : Int} (hk : 0 ≤ k) (hs : ∀ x ∈ s, 0 ≤ x ∧ x < k) (hp : l.Perm (fstL s)) {m : Nat} (hm : m < l.length) (hr : D = (itF s k (l.drop (l.length - m))).1) (hE : H = (itF s k (l.drop (l.length - m))).2) :
    (0 ≤ rd l ((l.length - 1 - m : Nat) : Int) ∧ rd l ((l.length - 1 - m : Nat) : Int) < s.length) ∧ (0 ≤ rd s (rd l ((l.length - 1 - m : Nat) : Int)) ∧ rd s (rd l ((l.length - 1 - m : Nat) : Int)) < k) ∧ (0 ≤ rd H (rd s (rd l ((l.length - 1 - m : Nat) : Int))) - 1 ∧ rd H (rd s (rd l ((l.length - 1 - m : Nat) : Int))) - 1 < s.length) ∧ (D.length = s.length ∧ H.length = k.toNat) ∧
    upd D (rd H (rd s (rd l ((l.length - 1 - m : Nat) : Int))) - 1) (rd l ((l.length - 1 - m : Nat) : Int)) = (itF s k (l.drop (l.length - (m + 1)))).1 ∧ upd H (rd s (rd l ((l.length - 1 - m : Nat) : Int))) (rd H (rd s (rd l ((l.length - 1 - m : Nat) : Int))) - 1) = (itF s k (l.drop (l.length - (m + 1)))).2 := by
  have e : l.length - 1 - m + 1 = l.length - m := by omega
  have h := fF (row := D) (E := H) hk hs hp (m := l.length - 1 - m) (by omega) (by rw [e]; exact hr) (by rw [e]; exact hE)
  rwa [show l.length - (m + 1) = l.length - 1 - m by omega]
theorem fst_len_le {s l : List Int} (hp : l.Perm (fstL s)) : l.length ≤ s.length := by rw [hp.length_eq]; exact fstL_len
set_option maxRecDepth 100000 in
set_option maxHeartbeats 2000000 in
theorem sort_ct {w : World} {A_s : Option Addr} {n_s c_s : Nat} {s : List Int} {k : Int} {A_l : Option Addr} {n_l c_l : Nat} {l : List Int} (h_s : Rd w A_s n_s c_s 1 (ints .i64 s)) (h_l : Rd w A_l n_l c_l 1 (ints .i64 l)) (hok : (0 ≤ k ∧ k ≤ 1048576) ∧ ∀ x ∈ s, 0 ≤ x ∧ x < k) (hp : l.Perm (fstL s)) (hN : s.length ≤ 1000000) :
    Ct Tryz.prog 314 #[.slice A_s n_s c_s, .int .i64 k, .slice A_l n_l c_l] w.heap.size w [] (fun v R' => ∃ A c, v = .tuple #[.slice A s.length c, .bool true] ∧ R' = [⟨3, 1, A, s.length, c, ints .i64 (indS s k l), false⟩]) := by
  obtain rfl := h_s.lenI
  obtain rfl := h_l.lenI
  refine fnV Tryz.func314 rfl rfl ?_
  have m_s := h_s.max
  have m_l := h_l.max
  have hk := hok.1
  have hs := hok.2
  have hll := fst_len_le hp
  have hcl : (cntV s k).length = k.toNat := cntV_len _ _
  refine v_seqW ?_
  refine w_reg ?_
  refine wr_y rfl (y_assign rfl) ?_
  refine wr_y rfl (y_assign rfl) ?_
  refine wr_nil ?_
  refine v_seqW ?_
  refine w_reg ?_
  refine wr_y rfl (y_move rfl) ?_
  refine wr_y rfl (y_move rfl) ?_
  refine wr_a rfl (a_callF en235 rfl (Ct.fresh (fun w hw => countsOk_ct ((h_s.c _) w hw) (by first | assumption | omega | decide)))) ?_
  rintro _ _ ⟨_, rfl, A_1, c_2, rfl, rfl⟩
  refine wr_y rfl (y_move rfl) ?_
  refine wr_y rfl (y_extract rfl rfl) ?_
  refine wr_y rfl (y_extract rfl rfl) ?_
  refine wr_y rfl (y_assign rfl) ?_
  refine wr_y rfl (y_assign rfl) ?_
  refine wr_nil ?_
  refine v_seqW ?_
  refine w_reg ?_
  refine wr_y rfl (y_move rfl) ?_
  refine wr_a rfl (a_callF en339 rfl (values_ct)) ?_
  rintro _ _ ⟨g_3, rfl, rfl⟩
  refine wr_a rfl (a_callF en338 rfl (Ct.fresh (fun w hw => sorted_ct ((h_l.c _) w hw) ((rdR 0 (r := ⟨24, 1, (some ⟨g_3, 0, none⟩), 1, 1, [.slice A_l l.length c_l], false⟩) rfl) w hw) (by omega)))) ?_
  rintro _ _ ⟨_, rfl, A_5, c_6, rfl, rfl⟩
  refine wr_y rfl (y_assign rfl) ?_
  refine wr_nil ?_
  refine v_seqW ?_
  refine w_seq ?_
  refine w_reg ?_
  refine wr_y rfl (y_move rfl) ?_
  refine wr_y rfl (y_not rfl) ?_
  refine wr_y rfl (y_move rfl) ?_
  refine wr_yes rfl rfl ?_
  refine wr_y rfl (y_move rfl) ?_
  refine wr_yes rfl rfl ?_
  refine wr_y rfl (y_move rfl) ?_
  refine wr_yes rfl rfl ?_
  refine wr_a rfl (a_callF en313 rfl (Ct.fresh (fun w hw => first_ct ((h_s.c _) w hw) (by first | assumption | omega | decide)))) ?_
  rintro _ _ ⟨_, rfl, A_8, c_9, rfl, rfl⟩
  refine wr_yes rfl rfl ?_
  refine wr_a rfl (a_callF en71 rfl (Ct.quiet (fun w hw => equalI_ct ((rdr 1 rfl) w hw) ((rdr 0 rfl) w hw) (by rw [(sortL_perm l).length_eq]; omega)))) ?_
  rintro _ _ ⟨rfl, rfl⟩
  refine wr_setT 30 rfl (sortL_fst.2 hp) ?_
  refine wr_yes rfl rfl ?_
  refine wr_y rfl (y_not rfl) ?_
  refine wr_y rfl (y_pickF rfl rfl) ?_
  refine wr_nil ?_
  refine w_false rfl ?_
  refine w_skip ?_
  refine v_seqW ?_
  refine w_seq ?_
  refine w_reg ?_
  refine wr_y rfl (y_move rfl) ?_
  refine wr_y rfl (y_len Tryz.underlying24 rfl) ?_
  refine wr_y rfl (y_eq rfl rfl) ?_
  refine wr_nil ?_
  refine w_if rfl (fun hc1 => ?_) (fun hc1 => ?_)
  ·
    refine w_seq ?_
    refine w_reg ?_
    refine wr_a rfl (a_litI .i64 [] Tryz.underlying24 zs3 rfl rfl rfl) ?_
    rintro _ _ ⟨g_12, rfl, rfl⟩
    refine wr_y rfl (y_assign rfl) ?_
    refine wr_y rfl (y_assign rfl) ?_
    refine wr_nil ?_
    refine w_retR (R1 := [⟨3, 1, (some ⟨g_12, 0, none⟩), 0, 0, ints .i64 ([]), false⟩]) (fun _ h => h.sel [0] (by decide) rfl) ?_
    refine fin2 rfl Gd.refl ⟨_, _, rfl, rfl, ?_⟩
    have e : s = [] := List.eq_nil_of_length_eq_zero (by omega)
    subst e
    rw [indS_nil hp]
    exact ⟨_, _, rfl, rfl⟩
  ·
    have hn : 0 < s.length := by omega
    refine w_skip ?_
    refine v_seqW ?_
    refine w_reg ?_
    refine wr_y rfl (y_move rfl) ?_
    refine wr_y rfl (y_move rfl) ?_
    refine wr_a rfl (a_callF en337 rfl (Ct.fresh (fun w hw => small_ct ((h_s.c _) w hw) (by first | assumption | omega | decide)))) ?_
    rintro _ _ ⟨_, rfl, A_13, c_14, rfl, rfl⟩
    refine wr_y rfl (y_move rfl) ?_
    refine wr_a rfl (a_litI .i64 [-1] Tryz.underlying24 zs3 rfl rfl rfl) ?_
    rintro _ _ ⟨g_16, rfl, rfl⟩
    refine wr_y rfl (y_move rfl) ?_
    refine wr_y rfl (y_len Tryz.underlying24 rfl) ?_
    refine wr_a rfl (a_callF en340 rfl (Ct.fresh (fun w hw => repeatI_ct ((rdr 0 rfl) w hw) rfl rfl ⟨by omega, by omega⟩))) ?_
    rintro _ _ ⟨_, rfl, A_17, c_18, rfl, rfl⟩
    refine wr_y rfl (y_build (v := .agg #[.slice A_s s.length c_s, .slice A_13 s.length c_14, .slice A_1 ((k).toNat) c_2, .slice A_17 s.length c_18]) rfl (fun w => by kernel_rfl)) ?_
    refine wr_a rfl (a_box (sz := 4) rfl rfl) ?_
    rintro _ _ ⟨g_19, rfl, rfl⟩
    refine wr_rows (R1 := [⟨367, 4, (some ⟨g_19, 0, none⟩), 1, 1, [.slice A_s s.length c_s, .slice A_13 s.length c_14, .slice A_1 ((k).toNat) c_2, .slice A_17 s.length c_18], false⟩, ⟨3, 1, A_17, s.length, c_18, ints .i64 (List.replicate s.length ((-1) : Int)), false⟩, ⟨3, 1, (some ⟨g_16, 0, none⟩), 1, 1, ints .i64 ([-1]), false⟩, ⟨4, 1, A_13, s.length, c_14, bools (smL s), false⟩, ⟨3, 1, A_8, (fstL s).length, c_9, ints .i64 (fstL s), false⟩, ⟨3, 1, A_5, (sortL l).length, c_6, ints .i64 (sortL l), false⟩, ⟨24, 1, (some ⟨g_3, 0, none⟩), 1, 1, [.slice A_l l.length c_l], false⟩, ⟨3, 1, A_1, ((k).toNat), c_2, ints .i64 (cntV s k), false⟩]) rfl ?_
    refine wr_a rfl (a_alloc (sz := 1) zz365 rfl) ?_
    rintro _ _ ⟨g_21, rfl, rfl⟩
    refine wr_rows (R1 := [⟨365, 1, (some ⟨g_21, 0, none⟩), 1, 1, [.pointer none], false⟩, ⟨367, 4, (some ⟨g_19, 0, none⟩), 1, 1, [.slice A_s s.length c_s, .slice A_13 s.length c_14, .slice A_1 ((k).toNat) c_2, .slice A_17 s.length c_18], false⟩, ⟨3, 1, A_17, s.length, c_18, ints .i64 (List.replicate s.length ((-1) : Int)), false⟩, ⟨3, 1, (some ⟨g_16, 0, none⟩), 1, 1, ints .i64 ([-1]), false⟩, ⟨4, 1, A_13, s.length, c_14, bools (smL s), false⟩, ⟨3, 1, A_8, (fstL s).length, c_9, ints .i64 (fstL s), false⟩, ⟨3, 1, A_5, (sortL l).length, c_6, ints .i64 (sortL l), false⟩, ⟨24, 1, (some ⟨g_3, 0, none⟩), 1, 1, [.slice A_l l.length c_l], false⟩, ⟨3, 1, A_1, ((k).toNat), c_2, ints .i64 (cntV s k), false⟩]) rfl ?_
    refine wr_n (a_storeAt 0 rfl rfl rfl sz365 rfl rfl rfl rfl (Nat.le_of_ble_eq_true rfl)) ?_
    rintro _ _ rfl
    refine wr_rows (R1 := [⟨365, 1, (some ⟨g_21, 0, none⟩), 1, 1, [.pointer (some ⟨g_19, 0, none⟩)], false⟩, ⟨367, 4, (some ⟨g_19, 0, none⟩), 1, 1, [.slice A_s s.length c_s, .slice A_13 s.length c_14, .slice A_1 ((k).toNat) c_2, .slice A_17 s.length c_18], false⟩, ⟨3, 1, A_17, s.length, c_18, ints .i64 (List.replicate s.length ((-1) : Int)), false⟩, ⟨3, 1, (some ⟨g_16, 0, none⟩), 1, 1, ints .i64 ([-1]), false⟩, ⟨4, 1, A_13, s.length, c_14, bools (smL s), false⟩, ⟨3, 1, A_8, (fstL s).length, c_9, ints .i64 (fstL s), false⟩, ⟨3, 1, A_5, (sortL l).length, c_6, ints .i64 (sortL l), false⟩, ⟨24, 1, (some ⟨g_3, 0, none⟩), 1, 1, [.slice A_l l.length c_l], false⟩, ⟨3, 1, A_1, ((k).toNat), c_2, ints .i64 (cntV s k), false⟩]) rfl ?_
    refine wr_nil ?_
    refine v_seqW ?_
    refine w_reg ?_
    refine wr_y rfl (y_ldIn (rdR 0 (r := ⟨365, 1, (some ⟨g_21, 0, none⟩), 1, 1, [.pointer (some ⟨g_19, 0, none⟩)], false⟩) rfl) Tryz.underlying365 rfl rfl rfl) ?_
    refine wr_a rfl (a_callF en341 rfl (ends_ct (rdR 1 (r := ⟨367, 4, (some ⟨g_19, 0, none⟩), 1, 1, [.slice A_s s.length c_s, .slice A_13 s.length c_14, .slice A_1 ((k).toNat) c_2, .slice A_17 s.length c_18], false⟩) rfl) (rdr 8 rfl) hk hs hN)) ?_
    rintro _ _ ⟨A_22, c_23, rfl, rfl⟩
    refine wr_a rfl (a_alloc (sz := 1) zz24 rfl) ?_
    rintro _ _ ⟨g_25, rfl, rfl⟩
    refine wr_rows (R1 := [⟨24, 1, (some ⟨g_25, 0, none⟩), 1, 1, [.slice none 0 0], false⟩, ⟨3, 1, A_22, k.toNat, c_23, ints .i64 (endsV (cntV s k)), false⟩, ⟨365, 1, (some ⟨g_21, 0, none⟩), 1, 1, [.pointer (some ⟨g_19, 0, none⟩)], false⟩, ⟨367, 4, (some ⟨g_19, 0, none⟩), 1, 1, [.slice A_s s.length c_s, .slice A_13 s.length c_14, .slice A_1 ((k).toNat) c_2, .slice A_17 s.length c_18], false⟩, ⟨3, 1, A_17, s.length, c_18, ints .i64 (List.replicate s.length ((-1) : Int)), false⟩, ⟨3, 1, (some ⟨g_16, 0, none⟩), 1, 1, ints .i64 ([-1]), false⟩, ⟨4, 1, A_13, s.length, c_14, bools (smL s), false⟩, ⟨3, 1, A_8, (fstL s).length, c_9, ints .i64 (fstL s), false⟩, ⟨3, 1, A_5, (sortL l).length, c_6, ints .i64 (sortL l), false⟩, ⟨24, 1, (some ⟨g_3, 0, none⟩), 1, 1, [.slice A_l l.length c_l], false⟩, ⟨3, 1, A_1, ((k).toNat), c_2, ints .i64 (cntV s k), false⟩]) rfl ?_
    refine wr_n (a_storeAt 0 rfl rfl rfl sz24 rfl rfl rfl rfl (Nat.le_of_ble_eq_true rfl)) ?_
    rintro _ _ rfl
    refine wr_rows (R1 := [⟨24, 1, (some ⟨g_25, 0, none⟩), 1, 1, [.slice A_22 k.toNat c_23], false⟩, ⟨3, 1, A_22, k.toNat, c_23, ints .i64 (endsV (cntV s k)), false⟩, ⟨365, 1, (some ⟨g_21, 0, none⟩), 1, 1, [.pointer (some ⟨g_19, 0, none⟩)], false⟩, ⟨367, 4, (some ⟨g_19, 0, none⟩), 1, 1, [.slice A_s s.length c_s, .slice A_13 s.length c_14, .slice A_1 ((k).toNat) c_2, .slice A_17 s.length c_18], false⟩, ⟨3, 1, A_17, s.length, c_18, ints .i64 (List.replicate s.length ((-1) : Int)), false⟩, ⟨3, 1, (some ⟨g_16, 0, none⟩), 1, 1, ints .i64 ([-1]), false⟩, ⟨4, 1, A_13, s.length, c_14, bools (smL s), false⟩, ⟨3, 1, A_8, (fstL s).length, c_9, ints .i64 (fstL s), false⟩, ⟨3, 1, A_5, (sortL l).length, c_6, ints .i64 (sortL l), false⟩, ⟨24, 1, (some ⟨g_3, 0, none⟩), 1, 1, [.slice A_l l.length c_l], false⟩, ⟨3, 1, A_1, ((k).toNat), c_2, ints .i64 (cntV s k), false⟩]) rfl ?_
    refine wr_nil ?_
    refine v_seq ?_
    refine v_seqW ?_
    refine w_reg ?_
    refine wr_y rfl (y_move rfl) ?_
    refine wr_a rfl (a_callF en97 rfl (backward_ct)) ?_
    rintro _ _ ⟨g_26, rfl, rfl⟩
    refine wr_nil ?_
    refine v_block ?_
    refine v_range2 rfl en166 (backI_ints (A := A_l) (c := c_l) (zs := l) (by omega)) rfl (fun _ => rfl) Gd.refl (fun (kr : Nat) (D : List Int) (H : List Int) => [⟨24, 1, (some ⟨g_26, 0, none⟩), 1, 1, [.slice A_l l.length c_l], false⟩, ⟨24, 1, (some ⟨g_25, 0, none⟩), 1, 1, [.slice A_22 k.toNat c_23], false⟩, ⟨3, 1, A_22, k.toNat, c_23, ints .i64 H, false⟩, ⟨365, 1, (some ⟨g_21, 0, none⟩), 1, 1, [.pointer (some ⟨g_19, 0, none⟩)], false⟩, ⟨367, 4, (some ⟨g_19, 0, none⟩), 1, 1, [.slice A_s s.length c_s, .slice A_13 s.length c_14, .slice A_1 ((k).toNat) c_2, .slice A_17 s.length c_18], false⟩, ⟨3, 1, A_17, s.length, c_18, ints .i64 D, false⟩, ⟨3, 1, (some ⟨g_16, 0, none⟩), 1, 1, ints .i64 ([-1]), false⟩, ⟨4, 1, A_13, s.length, c_14, bools (smL s), false⟩, ⟨3, 1, A_8, (fstL s).length, c_9, ints .i64 (fstL s), false⟩, ⟨3, 1, A_5, (sortL l).length, c_6, ints .i64 (sortL l), false⟩, ⟨24, 1, (some ⟨g_3, 0, none⟩), 1, 1, [.slice A_l l.length c_l], false⟩, ⟨3, 1, A_1, ((k).toNat), c_2, ints .i64 (cntV s k), false⟩]) (fun (kr : Nat) (D : List Int) (H : List Int) => (D = (itF s k (l.drop (l.length - kr))).1) ∧ (H = (itF s k (l.drop (l.length - kr))).2)) ?_ ?_ ?_ ?_
    ·
      exact ⟨List.replicate s.length ((-1) : Int), endsV (cntV s k), ⟨(by rw [Nat.sub_zero, List.drop_length]; rfl), (by rw [Nat.sub_zero, List.drop_length]; rfl)⟩, fun _ h => h⟩
    ·
      intro kr D H w ⟨hD, hH⟩ hw
      exact ⟨(rdR 0 (r := ⟨24, 1, (some ⟨g_26, 0, none⟩), 1, 1, [.slice A_l l.length c_l], false⟩) rfl) w hw, (h_l.c _) w hw⟩
    ·
      intro lr kr D H WW2 hkr ⟨hD, hH⟩ hbW2
      obtain ⟨f1, f2, f3, f4, f5, f6⟩ := fFZ hk.1 hs hp hkr hD hH
      refine w_reg ?_
      refine wr_y rfl (y_assign rfl) ?_
      refine wr_nil ?_
      intro WW23 hbW23
      refine w_block ?_
      refine w_reg ?_
      refine wr_y rfl (y_ldIn (rdR 3 (r := ⟨365, 1, (some ⟨g_21, 0, none⟩), 1, 1, [.pointer (some ⟨g_19, 0, none⟩)], false⟩) rfl) Tryz.underlying365 rfl rfl rfl) ?_
      refine wr_y rfl (y_ldIn (rdR 1 (r := ⟨24, 1, (some ⟨g_25, 0, none⟩), 1, 1, [.slice A_22 k.toNat c_23], false⟩) rfl) Tryz.underlying24 rfl rfl rfl) ?_
      refine wr_y rfl (y_move rfl) ?_
      refine wr_sub (R1 := [⟨3, 1, A_17, s.length, c_18, ints .i64 D, false⟩, ⟨3, 1, A_22, k.toNat, c_23, ints .i64 H, false⟩, ⟨24, 1, (some ⟨g_26, 0, none⟩), 1, 1, [.slice A_l l.length c_l], false⟩, ⟨24, 1, (some ⟨g_25, 0, none⟩), 1, 1, [.slice A_22 k.toNat c_23], false⟩, ⟨365, 1, (some ⟨g_21, 0, none⟩), 1, 1, [.pointer (some ⟨g_19, 0, none⟩)], false⟩, ⟨367, 4, (some ⟨g_19, 0, none⟩), 1, 1, [.slice A_s s.length c_s, .slice A_13 s.length c_14, .slice A_1 ((k).toNat) c_2, .slice A_17 s.length c_18], false⟩, ⟨3, 1, (some ⟨g_16, 0, none⟩), 1, 1, ints .i64 ([-1]), false⟩, ⟨4, 1, A_13, s.length, c_14, bools (smL s), false⟩, ⟨3, 1, A_8, (fstL s).length, c_9, ints .i64 (fstL s), false⟩, ⟨3, 1, A_5, (sortL l).length, c_6, ints .i64 (sortL l), false⟩, ⟨24, 1, (some ⟨g_3, 0, none⟩), 1, 1, [.slice A_l l.length c_l], false⟩, ⟨3, 1, A_1, ((k).toNat), c_2, ints .i64 (cntV s k), false⟩]) (Sub.refl _) (fun _ h => h.sel [5, 2, 0, 1, 3, 4, 6, 7, 8, 9, 10, 11] (by decide) rfl) ?_
      refine wr_a rfl (a_callF en342 rfl (lay_ct (row := D) (E := H) (j := (rd l ((l.length - 1 - kr : Nat) : Int))) (rdR 3 (r := ⟨367, 4, (some ⟨g_19, 0, none⟩), 1, 1, [.slice A_s s.length c_s, .slice A_13 s.length c_14, .slice A_1 ((k).toNat) c_2, .slice A_17 s.length c_18], false⟩) rfl) (h_s.cb hbW23 _) hk hN f1 f2 ⟨f4.1, f4.2, rfl⟩ f3)) ?_
      rintro _ _ ⟨rfl, rfl⟩
      refine wr_rows (R1 := [⟨3, 1, A_17, s.length, c_18, ints .i64 (upd D ((rd H (rd s (rd l ((l.length - 1 - kr : Nat) : Int)))) - 1) (rd l ((l.length - 1 - kr : Nat) : Int))), false⟩, ⟨3, 1, A_22, k.toNat, c_23, ints .i64 (upd H (rd s (rd l ((l.length - 1 - kr : Nat) : Int))) ((rd H (rd s (rd l ((l.length - 1 - kr : Nat) : Int)))) - 1)), false⟩, ⟨24, 1, (some ⟨g_26, 0, none⟩), 1, 1, [.slice A_l l.length c_l], false⟩, ⟨24, 1, (some ⟨g_25, 0, none⟩), 1, 1, [.slice A_22 k.toNat c_23], false⟩, ⟨365, 1, (some ⟨g_21, 0, none⟩), 1, 1, [.pointer (some ⟨g_19, 0, none⟩)], false⟩, ⟨367, 4, (some ⟨g_19, 0, none⟩), 1, 1, [.slice A_s s.length c_s, .slice A_13 s.length c_14, .slice A_1 ((k).toNat) c_2, .slice A_17 s.length c_18], false⟩, ⟨3, 1, (some ⟨g_16, 0, none⟩), 1, 1, ints .i64 ([-1]), false⟩, ⟨4, 1, A_13, s.length, c_14, bools (smL s), false⟩, ⟨3, 1, A_8, (fstL s).length, c_9, ints .i64 (fstL s), false⟩, ⟨3, 1, A_5, (sortL l).length, c_6, ints .i64 (sortL l), false⟩, ⟨24, 1, (some ⟨g_3, 0, none⟩), 1, 1, [.slice A_l l.length c_l], false⟩, ⟨3, 1, A_1, ((k).toNat), c_2, ints .i64 (cntV s k), false⟩]) rfl ?_
      refine wr_nil ?_
      exact ⟨upd D ((rd H (rd s (rd l ((l.length - 1 - kr : Nat) : Int)))) - 1) (rd l ((l.length - 1 - kr : Nat) : Int)), upd H (rd s (rd l ((l.length - 1 - kr : Nat) : Int))) ((rd H (rd s (rd l ((l.length - 1 - kr : Nat) : Int)))) - 1), ⟨(f5), (f6)⟩, fun _ => fun _ h => h.sel [2, 3, 1, 4, 5, 0, 6, 7, 8, 9, 10, 11] (by decide) rfl⟩
    intro WW25 DW2 D H ⟨hD, hH⟩ hbW25 hGW25
    rw [Nat.sub_self, List.drop_zero] at hD
    refine v_goB ?_
    refine v_go ?_
    refine v_w ?_
    refine w_seq ?_
    refine w_reg ?_
    refine wr_y rfl (y_ldIn (rdR 3 (r := ⟨365, 1, (some ⟨g_21, 0, none⟩), 1, 1, [.pointer (some ⟨g_19, 0, none⟩)], false⟩) rfl) Tryz.underlying365 rfl rfl rfl) ?_
    refine wr_sub (R1 := [⟨3, 1, A_17, s.length, c_18, ints .i64 D, false⟩, ⟨24, 1, (some ⟨g_26, 0, none⟩), 1, 1, [.slice A_l l.length c_l], false⟩, ⟨24, 1, (some ⟨g_25, 0, none⟩), 1, 1, [.slice A_22 k.toNat c_23], false⟩, ⟨3, 1, A_22, k.toNat, c_23, ints .i64 H, false⟩, ⟨365, 1, (some ⟨g_21, 0, none⟩), 1, 1, [.pointer (some ⟨g_19, 0, none⟩)], false⟩, ⟨367, 4, (some ⟨g_19, 0, none⟩), 1, 1, [.slice A_s s.length c_s, .slice A_13 s.length c_14, .slice A_1 ((k).toNat) c_2, .slice A_17 s.length c_18], false⟩, ⟨3, 1, (some ⟨g_16, 0, none⟩), 1, 1, ints .i64 ([-1]), false⟩, ⟨4, 1, A_13, s.length, c_14, bools (smL s), false⟩, ⟨3, 1, A_8, (fstL s).length, c_9, ints .i64 (fstL s), false⟩, ⟨3, 1, A_5, (sortL l).length, c_6, ints .i64 (sortL l), false⟩, ⟨24, 1, (some ⟨g_3, 0, none⟩), 1, 1, [.slice A_l l.length c_l], false⟩, ⟨3, 1, A_1, ((k).toNat), c_2, ints .i64 (cntV s k), false⟩]) (Sub.refl _) (fun _ h => h.sel [5, 0, 1, 2, 3, 4, 6, 7, 8, 9, 10, 11] (by decide) rfl) ?_
    refine wr_a rfl (a_callF en343 rfl (large_ct (row := D) (rdR 4 (r := ⟨367, 4, (some ⟨g_19, 0, none⟩), 1, 1, [.slice A_s s.length c_s, .slice A_13 s.length c_14, .slice A_1 ((k).toNat) c_2, .slice A_17 s.length c_18], false⟩) rfl) (h_s.cb hbW25 _) (rdr 6 rfl) (rdr 10 rfl) hk hs hN hp hn hD)) ?_
    rintro _ _ ⟨rfl, rfl⟩
    refine wr_rows (R1 := [⟨3, 1, A_17, s.length, c_18, ints .i64 ((itL s k l s.length).1), false⟩, ⟨24, 1, (some ⟨g_26, 0, none⟩), 1, 1, [.slice A_l l.length c_l], false⟩, ⟨24, 1, (some ⟨g_25, 0, none⟩), 1, 1, [.slice A_22 k.toNat c_23], false⟩, ⟨3, 1, A_22, k.toNat, c_23, ints .i64 H, false⟩, ⟨365, 1, (some ⟨g_21, 0, none⟩), 1, 1, [.pointer (some ⟨g_19, 0, none⟩)], false⟩, ⟨367, 4, (some ⟨g_19, 0, none⟩), 1, 1, [.slice A_s s.length c_s, .slice A_13 s.length c_14, .slice A_1 ((k).toNat) c_2, .slice A_17 s.length c_18], false⟩, ⟨3, 1, (some ⟨g_16, 0, none⟩), 1, 1, ints .i64 ([-1]), false⟩, ⟨4, 1, A_13, s.length, c_14, bools (smL s), false⟩, ⟨3, 1, A_8, (fstL s).length, c_9, ints .i64 (fstL s), false⟩, ⟨3, 1, A_5, (sortL l).length, c_6, ints .i64 (sortL l), false⟩, ⟨24, 1, (some ⟨g_3, 0, none⟩), 1, 1, [.slice A_l l.length c_l], false⟩, ⟨3, 1, A_1, ((k).toNat), c_2, ints .i64 (cntV s k), false⟩]) rfl ?_
    refine wr_nil ?_
    refine w_seq ?_
    refine w_reg ?_
    refine wr_y rfl (y_ldIn (rdR 4 (r := ⟨365, 1, (some ⟨g_21, 0, none⟩), 1, 1, [.pointer (some ⟨g_19, 0, none⟩)], false⟩) rfl) Tryz.underlying365 rfl rfl rfl) ?_
    refine wr_a rfl (a_callF en344 rfl (smalls_ct (rdR 4 (r := ⟨367, 4, (some ⟨g_19, 0, none⟩), 1, 1, [.slice A_s s.length c_s, .slice A_13 s.length c_14, .slice A_1 ((k).toNat) c_2, .slice A_17 s.length c_18], false⟩) rfl) (h_s.cb hbW25 _) (rdr 6 rfl) (rdr 10 rfl) hk hs hN hp hn)) ?_
    rintro _ _ ⟨rfl, rfl⟩
    refine wr_rows (R1 := [⟨3, 1, A_17, s.length, c_18, ints .i64 (indS s k l), false⟩, ⟨24, 1, (some ⟨g_26, 0, none⟩), 1, 1, [.slice A_l l.length c_l], false⟩, ⟨24, 1, (some ⟨g_25, 0, none⟩), 1, 1, [.slice A_22 k.toNat c_23], false⟩, ⟨3, 1, A_22, k.toNat, c_23, ints .i64 H, false⟩, ⟨365, 1, (some ⟨g_21, 0, none⟩), 1, 1, [.pointer (some ⟨g_19, 0, none⟩)], false⟩, ⟨367, 4, (some ⟨g_19, 0, none⟩), 1, 1, [.slice A_s s.length c_s, .slice A_13 s.length c_14, .slice A_1 ((k).toNat) c_2, .slice A_17 s.length c_18], false⟩, ⟨3, 1, (some ⟨g_16, 0, none⟩), 1, 1, ints .i64 ([-1]), false⟩, ⟨4, 1, A_13, s.length, c_14, bools (smL s), false⟩, ⟨3, 1, A_8, (fstL s).length, c_9, ints .i64 (fstL s), false⟩, ⟨3, 1, A_5, (sortL l).length, c_6, ints .i64 (sortL l), false⟩, ⟨24, 1, (some ⟨g_3, 0, none⟩), 1, 1, [.slice A_l l.length c_l], false⟩, ⟨3, 1, A_1, ((k).toNat), c_2, ints .i64 (cntV s k), false⟩]) rfl ?_
    refine wr_nil ?_
    refine w_seq ?_
    refine w_reg ?_
    refine wr_y rfl (y_ldIn (rdR 4 (r := ⟨365, 1, (some ⟨g_21, 0, none⟩), 1, 1, [.pointer (some ⟨g_19, 0, none⟩)], false⟩) rfl) Tryz.underlying365 rfl rfl rfl) ?_
    refine wr_y rfl (y_nilCheck rfl) ?_
    refine wr_y rfl (y_fieldAt (off := 3) (m := 3) Tryz.underlying367 rfl sz24 rfl rfl rfl) ?_
    refine wr_y rfl (y_ldIn (rdR 5 (r := ⟨367, 4, (some ⟨g_19, 0, none⟩), 1, 1, [.slice A_s s.length c_s, .slice A_13 s.length c_14, .slice A_1 ((k).toNat) c_2, .slice A_17 s.length c_18], false⟩) rfl) Tryz.underlying24 rfl rfl rfl) ?_
    refine wr_y rfl (y_assign rfl) ?_
    refine wr_y rfl (y_assign rfl) ?_
    refine wr_nil ?_
    refine w_retR (R1 := [⟨3, 1, A_17, s.length, c_18, ints .i64 (indS s k l), false⟩]) (fun _ h => h.sel [0] (by decide) rfl) ?_
    refine fin2 rfl hGW25 ⟨_, _, rfl, rfl, ?_⟩
    exact ⟨_, _, rfl, rfl⟩

end Go.Proofs.YtipnciohgbjjhaaGreat

/-! ## E23 -/
namespace Go.Eng
open Go Go.RowKit
section
variable {P : Program} {n : Nd} {B : Nat} {w0 : World} {ops : Array Oper} {K : Env → List Row → Prop} {L : Env} {R Rc : List Row} {op : Op} {ty : TypeId} {pos : String} {aft : Array Edge}
/-- R: what is known; Rc: what has come up rests on. -/
def WDc (P : Program) (n : Nd) (B : Nat) (w0 : World) (ops : Array Oper) (K : Env → List Row → Prop) (fuel : Nat) (listed : Array Bool) (L : Env) (R Rc : List Row) : Prop :=
  ∀ a w (Q : Exit → Act → World → Prop), Sat n L a → Hp B w0 w R → (∀ w, Hp B w0 w R → Hp B w0 w Rc) → (∀ c a w, ¬ Q (.panic c) a w) → (∀ a' w' L' R', Sat n L' a' → Hp B w0 w' R' → K L' R' → Q .normal a' w') → wpAnyB P ops Q fuel (fun w => Hp B w0 w Rc) listed a w
def Turnc (P : Program) (n : Nd) (B : Nat) (w0 : World) (ops : Array Oper) (K : Env → List Row → Prop) (fuel : Nat) (listed : Array Bool) (L : Env) (R Rc : List Row) (i : Nat) : Prop :=
  ∀ a w (Q : Exit → Act → World → Prop), Sat n L a → Hp B w0 w R → (∀ w, Hp B w0 w R → Hp B w0 w Rc) → (∀ c a w, ¬ Q (.panic c) a w) → (∀ a' w' L' R', Sat n L' a' → Hp B w0 w' R' → K L' R' → Q .normal a' w') →
    wpOp P ops Q i (fun a' w' => ∃ S' : World → Prop, S' w' ∧ (barB ops listed i = true ∨ ∀ x, S' x → Hp B w0 x Rc) ∧ wpAnyB P ops Q fuel S' (listed.setIfInBounds i true) a' w') a w
end
end Go.Eng

/-! ## I3 -/
namespace Go.Proofs.YtipnciohgbjjhaaGreat
open Go Go.Eng Go.Pure
set_option linter.unusedVariables false
/-- The large ones, the last place ahead of all. -/
def zL (s : List Int) (k : Int) (l : List Int) (i : Int) : List Int × List Int := if i < 0 then ((itF s k l).1, startsV (cntV s k)) else itL s k l i.toNat
end Go.Proofs.YtipnciohgbjjhaaGreat

/-! ## I4 -/
namespace Go.Proofs.YtipnciohgbjjhaaGreat
open Go Go.Eng Go.Pure
set_option linter.unusedVariables false
set_option maxRecDepth 100000 in
set_option maxHeartbeats 600000 in
theorem inv16_ct {w : World} {A_a : Option Addr} {n_a c_a : Nat} {a : List Int} (h_a : Rd w A_a n_a c_a 1 (ints .i64 a)) (hp : a.Perm (iota a.length)) (hN : a.length ≤ 1000000) :
    Ct Tryz.prog 135 #[.slice A_a n_a c_a] w.heap.size w [] (fun v R' => ∃ A c V, v = .tuple #[.slice A a.length c, .bool true] ∧ R' = [⟨3, 1, A, a.length, c, ints .i64 V, false⟩]) := by
  obtain rfl := h_a.lenI
  refine fn2 Tryz.func135 rfl rfl rfl ?_
  have m_a := h_a.max
  have hnd : a.Nodup := hp.symm.nodup (iota_nodup _)
  refine w_seq ?_
  refine w_reg ?_
  refine wr_y rfl (y_assign rfl) ?_
  refine wr_y rfl (y_assign rfl) ?_
  refine wr_nil ?_
  refine w_seq ?_
  refine w_reg ?_
  refine wr_y rfl (y_move rfl) ?_
  refine wr_y rfl (y_len Tryz.underlying24 rfl) ?_
  refine wr_a rfl (a_makeN Tryz.underlying24 zb3 rfl rfl (by omega) (by omega) (by omega)) ?_
  rintro _ _ ⟨g_1, rfl, rfl⟩
  refine wr_rows (R1 := [⟨3, 1, (some ⟨g_1, 0, none⟩), a.length, a.length, ints .i64 (List.replicate a.length (0 : Int)), false⟩]) rfl ?_
  refine wr_as (v := .slice (some ⟨g_1, 0, none⟩) a.length a.length) rfl ?_
  refine wr_y rfl (y_assign rfl) ?_
  refine wr_nil ?_
  refine w_seq ?_
  refine w_seq ?_
  refine w_reg ?_
  refine wr_y rfl (y_assign rfl) ?_
  refine wr_nil ?_
  refine w_block ?_
  refine w_loop2 (fun (q : Int) (D : List Int) => [(0, .slice A_a a.length c_a), (4, .slice (some ⟨g_1, 0, none⟩) a.length a.length), (5, .int .i64 q)]) (fun (q : Int) (D : List Int) => [⟨3, 1, (some ⟨g_1, 0, none⟩), a.length, a.length, ints .i64 D, false⟩]) (fun (q : Int) (D : List Int) => (0 ≤ q) ∧ (q ≤ a.length) ∧ (D.length = a.length) ∧ (∀ j : Int, 0 ≤ j → j < q → rd D j = -1)) (fun (q : Int) (D : List Int) => (a.length - q).toNat) ?_ ?_
  ·
    exact ⟨0, List.replicate a.length (0 : Int), ⟨(by omega), (by omega), (by rw [List.length_replicate]), (fun j h1 h2 => by omega)⟩, (Sub.cons rfl (Sub.cons rfl (Sub.cons rfl Sub.nil))), fun _ h => h⟩
  intro q D ⟨hq0, hq1, hDl, hD⟩
  refine w_seq ?_
  refine w_seq ?_
  refine w_reg ?_
  refine wr_y rfl (y_move rfl) ?_
  refine wr_y rfl (y_move rfl) ?_
  refine wr_y rfl (y_len Tryz.underlying24 rfl) ?_
  refine wr_y rfl (y_lt rfl rfl) ?_
  refine wr_nil ?_
  refine w_if rfl (fun hc1 => ?_) (fun hc1 => ?_)
  ·
    refine w_skip ?_
    refine w_seq ?_
    refine w_block ?_
    refine w_reg ?_
    refine wr_y rfl (y_move rfl) ?_
    refine wr_y rfl (y_move rfl) ?_
    refine wr_y rfl (y_index1 Tryz.underlying24 sz3 rfl rfl (rdr 0 rfl) (by omega) (by omega)) ?_
    refine wr_n (a_storeI 0 rfl sz3 rfl rfl (by omega) (by omega)) ?_
    rintro _ _ rfl
    refine wr_rows (R1 := [⟨3, 1, (some ⟨g_1, 0, none⟩), a.length, a.length, ints .i64 (upd D q (-1)), false⟩]) rfl ?_
    refine wr_nil ?_
    refine w_reg ?_
    refine wr_y rfl (y_move rfl) ?_
    refine wr_y rfl (y_addI rfl rfl (by omega)) ?_
    refine wr_y rfl (y_assign rfl) ?_
    refine wr_nil ?_
    exact ⟨q + 1, upd D q (-1), ⟨(by omega), (by omega), (by rw [upd_length]; exact hDl), (fill_step (f := fun _ => -1) hq0 (by omega) hD rfl)⟩, (by omega), (Sub.cons rfl (Sub.cons rfl (Sub.cons rfl Sub.nil))), fun _ h => h⟩
  ·
    refine w_exit ?_
    refine w_seq ?_
    refine w_seq ?_
    refine w_reg ?_
    refine wr_y rfl (y_assign rfl) ?_
    refine wr_nil ?_
    refine w_block ?_
    refine w_loop2 (fun (i : Int) (D : List Int) => [(0, .slice A_a a.length c_a), (4, .slice (some ⟨g_1, 0, none⟩) a.length a.length), (6, .int .i64 i)]) (fun (i : Int) (D : List Int) => [⟨3, 1, (some ⟨g_1, 0, none⟩), a.length, a.length, ints .i64 D, false⟩]) (fun (i : Int) (D : List Int) => (0 ≤ i) ∧ (i ≤ a.length) ∧ (D.length = a.length) ∧ (∀ x : Int, 0 ≤ x → x < a.length → 0 ≤ rd D x → ∃ q : Int, 0 ≤ q ∧ q < i ∧ rd a q = x)) (fun (i : Int) (D : List Int) => (a.length - i).toNat) ?_ ?_
    ·
      exact ⟨0, D, ⟨(by omega), (by omega), (hDl), (fun x h0 h1 h2 => by have := hD x h0 (by omega); omega)⟩, (Sub.cons rfl (Sub.cons rfl (Sub.cons rfl Sub.nil))), fun _ h => h⟩
    intro i D ⟨hi0, hi1, hDl, hV⟩
    refine w_seq ?_
    refine w_seq ?_
    refine w_reg ?_
    refine wr_y rfl (y_move rfl) ?_
    refine wr_y rfl (y_move rfl) ?_
    refine wr_y rfl (y_len Tryz.underlying24 rfl) ?_
    refine wr_y rfl (y_lt rfl rfl) ?_
    refine wr_nil ?_
    refine w_if rfl (fun hc2 => ?_) (fun hc2 => ?_)
    ·
      have ha := mem_iota.1 (hp.subset (rd_mem (L := a) hi0 (by omega)))
      refine w_skip ?_
      refine w_seq ?_
      refine w_block ?_
      refine w_seq ?_
      refine w_seq ?_
      refine w_reg ?_
      refine wr_y rfl (y_move rfl) ?_
      refine wr_y rfl (y_move rfl) ?_
      refine wr_y rfl (y_index1 Tryz.underlying24 sz3 rfl rfl (h_a.c _) (by omega) (by omega)) ?_
      refine wr_y rfl (y_ldI Tryz.underlying3 rfl rfl (h_a.c _) (by omega) (by omega)) ?_
      refine wr_y rfl (Yl.f (y_lt rfl rfl) (by omega)) ?_
      refine wr_y rfl (y_move rfl) ?_
      refine wr_yes rfl rfl ?_
      refine wr_y rfl (y_move rfl) ?_
      refine wr_yes rfl rfl ?_
      refine wr_y rfl (y_move rfl) ?_
      refine wr_yes rfl rfl ?_
      refine wr_y rfl (y_index1 Tryz.underlying24 sz3 rfl rfl (h_a.c _) (by omega) (by omega)) ?_
      refine wr_yes rfl rfl ?_
      refine wr_y rfl (y_ldI Tryz.underlying3 rfl rfl (h_a.c _) (by omega) (by omega)) ?_
      refine wr_yes rfl rfl ?_
      refine wr_y rfl (y_move rfl) ?_
      refine wr_yes rfl rfl ?_
      refine wr_y rfl (y_len Tryz.underlying24 rfl) ?_
      refine wr_yes rfl rfl ?_
      refine wr_y rfl (Yl.f (y_ge rfl rfl) (by omega)) ?_
      refine wr_y rfl (y_pickF rfl rfl) ?_
      refine wr_y rfl (y_move rfl) ?_
      refine wr_yes rfl rfl ?_
      refine wr_y rfl (y_move rfl) ?_
      refine wr_yes rfl rfl ?_
      refine wr_y rfl (y_move rfl) ?_
      refine wr_yes rfl rfl ?_
      refine wr_y rfl (y_move rfl) ?_
      refine wr_yes rfl rfl ?_
      refine wr_y rfl (y_index1 Tryz.underlying24 sz3 rfl rfl (h_a.c _) (by omega) (by omega)) ?_
      refine wr_yes rfl rfl ?_
      refine wr_y rfl (y_ldI Tryz.underlying3 rfl rfl (h_a.c _) (by omega) (by omega)) ?_
      refine wr_yes rfl rfl ?_
      refine wr_y rfl (y_index1 Tryz.underlying24 sz3 rfl rfl (rdr 0 rfl) (by omega) (by omega)) ?_
      refine wr_yes rfl rfl ?_
      refine wr_y rfl (y_ldI Tryz.underlying3 rfl rfl (rdr 0 rfl) (by omega) (by omega)) ?_
      refine wr_yes rfl rfl ?_
      refine wr_y rfl (Yl.f (y_ge rfl rfl) (fun h => by
            obtain ⟨q, q0, q1, e⟩ := hV _ ha.1 ha.2 h
            have := rd_inj hnd q0 (by omega) hi0 (by omega) e
            omega)) ?_
      refine wr_y rfl (y_pickF rfl rfl) ?_
      refine wr_nil ?_
      refine w_false rfl ?_
      refine w_skip ?_
      refine w_reg ?_
      refine wr_y rfl (y_move rfl) ?_
      refine wr_y rfl (y_move rfl) ?_
      refine wr_y rfl (y_move rfl) ?_
      refine wr_y rfl (y_index1 Tryz.underlying24 sz3 rfl rfl (h_a.c _) (by omega) (by omega)) ?_
      refine wr_y rfl (y_ldI Tryz.underlying3 rfl rfl (h_a.c _) (by omega) (by omega)) ?_
      refine wr_y rfl (y_move rfl) ?_
      refine wr_y rfl (y_index1 Tryz.underlying24 sz3 rfl rfl (rdr 0 rfl) (by omega) (by omega)) ?_
      refine wr_n (a_storeI 0 rfl sz3 rfl rfl (by omega) (by omega)) ?_
      rintro _ _ rfl
      refine wr_rows (R1 := [⟨3, 1, (some ⟨g_1, 0, none⟩), a.length, a.length, ints .i64 (upd D (rd a i) i), false⟩]) rfl ?_
      refine wr_nil ?_
      refine w_reg ?_
      refine wr_y rfl (y_move rfl) ?_
      refine wr_y rfl (y_addI rfl rfl (by omega)) ?_
      refine wr_y rfl (y_assign rfl) ?_
      refine wr_nil ?_
      exact ⟨i + 1, upd D (rd a i) i, ⟨(by omega), (by omega), (by rw [upd_length]; exact hDl), (fun x x0 x1 hx => by
          rw [rd_upd ha.1 x0 (by omega)] at hx
          by_cases e : x = rd a i
          · exact ⟨i, hi0, by omega, e.symm⟩
          · rw [if_neg e] at hx
            obtain ⟨q, q0, q1, h⟩ := hV x x0 x1 hx
            exact ⟨q, q0, by omega, h⟩)⟩, (by omega), (Sub.cons rfl (Sub.cons rfl (Sub.cons rfl Sub.nil))), fun _ h => h⟩
    ·
      refine w_exit ?_
      refine w_seq ?_
      refine w_reg ?_
      refine wr_y rfl (y_move rfl) ?_
      refine wr_y rfl (y_assign rfl) ?_
      refine wr_y rfl (y_assign rfl) ?_
      refine wr_nil ?_
      refine w_retR (R1 := [⟨3, 1, (some ⟨g_1, 0, none⟩), a.length, a.length, ints .i64 D, false⟩]) (fun _ h => h.sel [0] (by decide) rfl) ?_
      refine ⟨_, _, rfl, rfl, ?_⟩
      exact ⟨_, _, _, rfl, rfl⟩

set_option maxRecDepth 100000 in
theorem is16_ct {w : World} {A_a : Option Addr} {n_a c_a : Nat} {a : List Int} (h_a : Rd w A_a n_a c_a 1 (ints .i64 a)) (hp : a.Perm (iota a.length)) (hN : a.length ≤ 1000000) :
    Ct Tryz.prog 75 #[.slice A_a n_a c_a] w.heap.size w [] (fun v R' => v = .bool true) := by
  obtain rfl := h_a.lenI
  refine fn1 Tryz.func75 rfl rfl rfl ?_
  have m_a := h_a.max
  refine w_seq ?_
  refine w_reg ?_
  refine wr_y rfl (y_assign rfl) ?_
  refine wr_nil ?_
  refine w_seq ?_
  refine w_reg ?_
  refine wr_y rfl (y_move rfl) ?_
  refine wr_a rfl (a_callF en135 rfl (Ct.fresh (fun w hw => inv16_ct ((h_a.c _) w hw) hp (by omega)))) ?_
  rintro _ _ ⟨_, rfl, A_1, c_2, V_3, rfl, rfl⟩
  refine wr_y rfl (y_move rfl) ?_
  refine wr_y rfl (y_extract rfl rfl) ?_
  refine wr_y rfl (y_extract rfl rfl) ?_
  refine wr_y rfl (y_assign rfl) ?_
  refine wr_y rfl (y_assign rfl) ?_
  refine wr_nil ?_
  refine w_seq ?_
  refine w_reg ?_
  refine wr_y rfl (y_move rfl) ?_
  refine wr_y rfl (y_assign rfl) ?_
  refine wr_nil ?_
  refine w_retR (R1 := []) (fun _ h => h.sel [] (by decide) rfl) ?_
  refine ⟨_, rfl, ?_⟩
  rfl

theorem ind_facts {s l : List Int} {k : Int} (hk : 0 ≤ k) (hs : ∀ x ∈ s, 0 ≤ x ∧ x < k) (hp : l.Perm (fstL s)) : (indS s k l).length = s.length ∧ (indS s k l).Perm (iota s.length) ∧ (∀ q : Int, 0 ≤ q → q + 1 < s.length → rd s (rd (indS s k l) q) ≤ rd s (rd (indS s k l) (q + 1))) ∧ (l.Pairwise (ordE s) → (indS s k l).Pairwise (ordE s)) := by
  refine ⟨indS_len hk hs hp, ?_⟩
  rcases Nat.eq_zero_or_pos s.length with h | h
  · have e : s = [] := List.eq_nil_of_length_eq_zero h
    subst e
    rw [indS_nil hp]
    exact ⟨.refl _, fun q h0 h1 => by simp at h1; omega, fun _ => .nil⟩
  · exact indS_ok hk hs hp h
end Go.Proofs.YtipnciohgbjjhaaGreat

/-! ## J1 -/
namespace Go.Proofs.YtipnciohgbjjhaaGreat
open Go Go.Eng Go.Pure
set_option linter.unusedVariables false
set_option maxRecDepth 100000 in
theorem piece_ct {w : World} {A_s : Option Addr} {n_s c_s : Nat} {s : List Int} {A_x : Option Addr} {n_x c_x : Nat} {x : List Int} {i : Int} (h_s : Rd w A_s n_s c_s 1 (ints .i64 s)) (h_x : Rd w A_x n_x c_x 1 (ints .i64 x)) (hi : 0 ≤ i ∧ i < s.length) (hx : x.length = s.length) (hlo : i < rd x i) (hhi : rd x i ≤ s.length) (hN : s.length ≤ 1000000) :
    Ct Tryz.prog 345 #[.slice A_s n_s c_s, .slice A_x n_x c_x, .int .i64 i] w.heap.size w [] (fun v R' => v = .slice (cutA A_s i.toNat c_s 1) ((min (rd x i + 1) ((s.length : Nat) : Int)).toNat - i.toNat) (c_s - i.toNat)) := by
  obtain rfl := h_s.lenI
  obtain rfl := h_x.lenI
  refine fn1 Tryz.func345 rfl rfl rfl ?_
  have m_s := h_s.max
  have m_x := h_x.max
  refine w_seq ?_
  refine w_reg ?_
  refine wr_y rfl (y_assign rfl) ?_
  refine wr_nil ?_
  refine w_seq ?_
  refine w_reg ?_
  refine wr_y rfl (y_move rfl) ?_
  refine wr_y rfl (y_move rfl) ?_
  refine wr_y rfl (y_move rfl) ?_
  refine wr_y rfl (y_move rfl) ?_
  refine wr_y rfl (y_index1 Tryz.underlying24 sz3 rfl rfl (h_x.c _) (by omega) (by omega)) ?_
  refine wr_y rfl (y_ldI Tryz.underlying3 rfl rfl (h_x.c _) (by omega) (by omega)) ?_
  refine wr_y rfl (y_addI rfl rfl (by omega)) ?_
  refine wr_y rfl (y_move rfl) ?_
  refine wr_y rfl (y_len Tryz.underlying24 rfl) ?_
  refine wr_y rfl (y_min rfl rfl) ?_
  refine wr_y rfl (y_slice Tryz.underlying24 sz3 rfl rfl rfl (h_s.c _) (by omega) (by omega) (by omega)) ?_
  refine wr_y rfl (y_assign rfl) ?_
  refine wr_nil ?_
  refine w_ret ?_
  refine ⟨_, rfl, ?_⟩
  rfl

set_option maxRecDepth 100000 in
set_option maxHeartbeats 1000000 in
theorem named_ct {w : World} {A_s : Option Addr} {n_s c_s : Nat} {s : List Int} {A_f : Option Addr} {n_f c_f : Nat} {f : List Int} {A_o : Option Addr} {n_o c_o : Nat} {o : List Int} (h_s : Rd w A_s n_s c_s 1 (ints .i64 s)) (h_f : Rd w A_f n_f c_f 1 (ints .i64 f)) (h_o : Rd w A_o n_o c_o 1 (ints .i64 o)) (hs : Nn s) (hf : f = fstL s) (hop : o.Perm (iota s.length)) (hoo : o.Pairwise (pcS s)) (hN : s.length ≤ 1000000) :
    Ct Tryz.prog 315 #[.slice A_s n_s c_s, .slice A_f n_f c_f, .slice A_o n_o c_o] w.heap.size w [] (fun v R' => ∃ (nx nm : List Int) (n la : Int) (A : Option Addr) (c : Nat), v = .tuple #[.slice A f.length c, .int .i64 (n + 1)] ∧ NxOk s nx (fstL s).length ∧ NamI s o nx s.length nm n la ∧ R' = [⟨3, 1, A, f.length, c, ints .i64 (f.map (rd nm)), false⟩]) := by
  obtain rfl := h_s.lenI
  obtain rfl := h_f.lenI
  obtain rfl := h_o.lenI
  refine fn2 Tryz.func315 rfl rfl rfl ?_
  have m_s := h_s.max
  have m_f := h_f.max
  have m_o := h_o.max
  have hol : o.length = s.length := by rw [hop.length_eq, iota_len]
  have hfl : f.length ≤ s.length := by rw [hf]; exact fstL_len
  refine w_seq ?_
  refine w_reg ?_
  refine wr_y rfl (y_assign rfl) ?_
  refine wr_y rfl (y_assign rfl) ?_
  refine wr_nil ?_
  refine w_seq ?_
  refine w_reg ?_
  refine wr_y rfl (y_move rfl) ?_
  refine wr_y rfl (y_len Tryz.underlying24 rfl) ?_
  refine wr_a rfl (a_makeN Tryz.underlying24 zb3 rfl rfl (by omega) (by omega) (by omega)) ?_
  rintro _ _ ⟨g_1, rfl, rfl⟩
  refine wr_rows (R1 := [⟨3, 1, (some ⟨g_1, 0, none⟩), s.length, s.length, ints .i64 (List.replicate s.length (0 : Int)), false⟩]) rfl ?_
  refine wr_as (v := .slice (some ⟨g_1, 0, none⟩) s.length s.length) rfl ?_
  refine wr_y rfl (y_assign rfl) ?_
  refine wr_nil ?_
  refine w_seq ?_
  refine w_seq ?_
  refine w_reg ?_
  refine wr_y rfl (y_move rfl) ?_
  refine wr_y rfl (y_len Tryz.underlying24 rfl) ?_
  refine wr_y rfl (y_move rfl) ?_
  refine wr_nil ?_
  refine w_block ?_
  refine w_loop2 (fun (i : Int) (V : List Int) => [(0, .slice A_s s.length c_s), (1, .slice A_f f.length c_f), (2, .slice A_o o.length c_o), (8, .slice (some ⟨g_1, 0, none⟩) s.length s.length), (22, .slice A_f f.length c_f), (23, .int .i64 ((f.length : Nat) : Int)), (24, .int .i64 i)]) (fun (i : Int) (V : List Int) => [⟨3, 1, (some ⟨g_1, 0, none⟩), s.length, s.length, ints .i64 V, false⟩]) (fun (i : Int) (V : List Int) => (0 ≤ i) ∧ (i ≤ f.length) ∧ (NxOk s V i)) (fun (i : Int) (V : List Int) => (f.length - i).toNat) ?_ ?_
  ·
    exact ⟨0, List.replicate s.length (0 : Int), ⟨(by omega), (by omega), (nx_zero)⟩, (Sub.cons rfl (Sub.cons rfl (Sub.cons rfl (Sub.cons rfl (Sub.cons rfl (Sub.cons rfl (Sub.cons rfl Sub.nil))))))), fun _ h => h⟩
  intro i V ⟨hi0, hi1, hV⟩
  have hVl := hV.len
  have hfi : i < f.length → 0 ≤ rd f i ∧ rd f i < s.length := fun h => by subst hf; exact (fstL_at hi0 h).1
  refine w_seq ?_
  refine w_reg ?_
  refine wr_y rfl (y_lt rfl rfl) ?_
  refine wr_nil ?_
  refine w_seq ?_
  refine w_if rfl (fun hc1 => ?_) (fun hc1 => ?_)
  ·
    have hfi2 := hfi (by omega)
    refine w_skip ?_
    refine w_seq ?_
    refine w_block ?_
    refine w_seq ?_
    refine w_reg ?_
    refine wr_y rfl (y_move rfl) ?_
    refine wr_y rfl (y_index1 Tryz.underlying24 sz3 rfl rfl (h_f.c _) (by omega) (by omega)) ?_
    refine wr_y rfl (y_ldI Tryz.underlying3 rfl rfl (h_f.c _) (by omega) (by omega)) ?_
    refine wr_y rfl (y_assign rfl) ?_
    refine wr_y rfl (y_assign rfl) ?_
    refine wr_nil ?_
    refine w_seq ?_
    refine w_reg ?_
    refine wr_y rfl (y_move rfl) ?_
    refine wr_y rfl (y_move rfl) ?_
    refine wr_y rfl (y_move rfl) ?_
    refine wr_y rfl (y_len Tryz.underlying24 rfl) ?_
    refine wr_y rfl (y_index1 Tryz.underlying24 sz3 rfl rfl (rdr 0 rfl) (by omega) (by omega)) ?_
    refine wr_n (a_storeI 0 rfl sz3 rfl rfl (by omega) (by omega)) ?_
    rintro _ _ rfl
    refine wr_rows (R1 := [⟨3, 1, (some ⟨g_1, 0, none⟩), s.length, s.length, ints .i64 (upd V (rd f i) ((s.length : Nat) : Int)), false⟩]) rfl ?_
    refine wr_nil ?_
    refine w_seq ?_
    refine w_reg ?_
    refine wr_y rfl (y_move rfl) ?_
    refine wr_y rfl (y_addI rfl rfl (by omega)) ?_
    refine wr_y rfl (y_move rfl) ?_
    refine wr_y rfl (y_len Tryz.underlying24 rfl) ?_
    refine wr_y rfl (y_lt rfl rfl) ?_
    refine wr_nil ?_
    refine w_if rfl (fun hc2 => ?_) (fun hc2 => ?_)
    ·
      refine w_reg ?_
      refine wr_y rfl (y_move rfl) ?_
      refine wr_y rfl (y_move rfl) ?_
      refine wr_y rfl (y_move rfl) ?_
      refine wr_y rfl (y_move rfl) ?_
      refine wr_y rfl (y_addI rfl rfl (by omega)) ?_
      refine wr_y rfl (y_index1 Tryz.underlying24 sz3 rfl rfl (h_f.c _) (by omega) (by omega)) ?_
      refine wr_y rfl (y_ldI Tryz.underlying3 rfl rfl (h_f.c _) (by omega) (by omega)) ?_
      refine wr_y rfl (y_index1 Tryz.underlying24 sz3 rfl rfl (rdr 0 rfl) (by omega) (by omega)) ?_
      refine wr_n (a_storeI 0 rfl sz3 rfl rfl (by omega) (by omega)) ?_
      rintro _ _ rfl
      refine wr_rows (R1 := [⟨3, 1, (some ⟨g_1, 0, none⟩), s.length, s.length, ints .i64 (upd (upd V (rd f i) ((s.length : Nat) : Int)) (rd f i) (rd f (i + 1))), false⟩]) rfl ?_
      refine wr_nil ?_
      refine w_reg ?_
      refine wr_y rfl (y_addI rfl rfl (by omega)) ?_
      refine wr_y rfl (y_move rfl) ?_
      refine wr_nil ?_
      exact ⟨i + 1, upd (upd V (rd f i) ((s.length : Nat) : Int)) (rd f i) (rd f (i + 1)), ⟨(by omega), (by omega), (by subst hf; exact hV.step2 hi0 (by omega) (by omega))⟩, (by omega), (Sub.cons rfl (Sub.cons rfl (Sub.cons rfl (Sub.cons rfl (Sub.cons rfl (Sub.cons rfl (Sub.cons rfl Sub.nil))))))), fun _ h => h⟩
    ·
      refine w_skip ?_
      refine w_reg ?_
      refine wr_y rfl (y_addI rfl rfl (by omega)) ?_
      refine wr_y rfl (y_move rfl) ?_
      refine wr_nil ?_
      exact ⟨i + 1, upd V (rd f i) ((s.length : Nat) : Int), ⟨(by omega), (by omega), (by subst hf; exact hV.step1 hi0 (by omega) (by omega))⟩, (by omega), (Sub.cons rfl (Sub.cons rfl (Sub.cons rfl (Sub.cons rfl (Sub.cons rfl (Sub.cons rfl (Sub.cons rfl Sub.nil))))))), fun _ h => h⟩
  ·
    have hV2 : NxOk s V (fstL s).length := by have e : i = (fstL s).length := (by rw [← hf]; omega); rw [← e]; exact hV
    refine w_exit ?_
    refine w_seq ?_
    refine w_reg ?_
    refine wr_y rfl (y_move rfl) ?_
    refine wr_y rfl (y_len Tryz.underlying24 rfl) ?_
    refine wr_a rfl (a_makeN Tryz.underlying24 zb3 rfl rfl (by omega) (by omega) (by omega)) ?_
    rintro _ _ ⟨g_2, rfl, rfl⟩
    refine wr_rows (R1 := [⟨3, 1, (some ⟨g_2, 0, none⟩), s.length, s.length, ints .i64 (List.replicate s.length (0 : Int)), false⟩, ⟨3, 1, (some ⟨g_1, 0, none⟩), s.length, s.length, ints .i64 V, false⟩]) rfl ?_
    refine wr_as (v := .slice (some ⟨g_2, 0, none⟩) s.length s.length) rfl ?_
    refine wr_y rfl (y_assign rfl) ?_
    refine wr_nil ?_
    refine w_seq ?_
    refine w_reg ?_
    refine wr_y rfl (y_assign rfl) ?_
    refine wr_y rfl (y_assign rfl) ?_
    refine wr_nil ?_
    refine w_seq ?_
    refine w_seq ?_
    refine w_reg ?_
    refine wr_y rfl (y_move rfl) ?_
    refine wr_y rfl (y_len Tryz.underlying24 rfl) ?_
    refine wr_y rfl (y_move rfl) ?_
    refine wr_nil ?_
    refine w_block ?_
    refine w_loop4 (fun (q : Int) (U : List Int) (n : Int) (la : Int) => [(0, .slice A_s s.length c_s), (1, .slice A_f f.length c_f), (8, .slice (some ⟨g_1, 0, none⟩) s.length s.length), (11, .slice (some ⟨g_2, 0, none⟩) s.length s.length), (12, .int .i64 n), (13, .int .i64 la), (51, .slice A_o o.length c_o), (52, .int .i64 ((o.length : Nat) : Int)), (53, .int .i64 q)]) (fun (q : Int) (U : List Int) (n : Int) (la : Int) => [⟨3, 1, (some ⟨g_2, 0, none⟩), s.length, s.length, ints .i64 U, false⟩, ⟨3, 1, (some ⟨g_1, 0, none⟩), s.length, s.length, ints .i64 V, false⟩]) (fun (q : Int) (U : List Int) (n : Int) (la : Int) => (0 ≤ q) ∧ (q ≤ o.length) ∧ (NamI s o V q U n la)) (fun (q : Int) (U : List Int) (n : Int) (la : Int) => (o.length - q).toNat) ?_ ?_
    ·
      exact ⟨0, List.replicate s.length (0 : Int), 0, -1, ⟨(by omega), (by omega), (nam_zero)⟩, (Sub.cons rfl (Sub.cons rfl (Sub.cons rfl (Sub.cons rfl (Sub.cons rfl (Sub.cons rfl (Sub.cons rfl (Sub.cons rfl (Sub.cons rfl Sub.nil))))))))), fun _ h => h⟩
    intro q U n la ⟨hq0, hq1, hM⟩
    have hUl := hM.len
    have hMb := hM.bd
    have hla := hM.last_in hop (by omega)
    have hlx : 0 ≤ la → la < s.length ∧ la < rd V la ∧ rd V la ≤ s.length := fun h => by
      rcases hla with e | ⟨e, e2⟩
      · omega
      · have g := hV2.nx e.1 e.2 e2
        exact ⟨e.2, g.gt, g.le⟩
    have hoq : q < o.length → 0 ≤ rd o q ∧ rd o q < s.length := fun h => mem_iota.1 (hop.subset (rd_mem (L := o) hq0 h))
    have hoz : q < o.length → (rd V (rd o q) = 0 ↔ fstB s (rd o q) = false) := fun h => hV2.zero (hoq h).1 (hoq h).2
    refine w_seq ?_
    refine w_reg ?_
    refine wr_y rfl (y_lt rfl rfl) ?_
    refine wr_nil ?_
    refine w_seq ?_
    refine w_if rfl (fun hc3 => ?_) (fun hc3 => ?_)
    ·
      have hoq2 := hoq (by omega)
      have hoz2 := hoz (by omega)
      refine w_skip ?_
      refine w_seq ?_
      refine w_block ?_
      refine w_seq ?_
      refine w_reg ?_
      refine wr_y rfl (y_index1 Tryz.underlying24 sz3 rfl rfl (h_o.c _) (by omega) (by omega)) ?_
      refine wr_y rfl (y_ldI Tryz.underlying3 rfl rfl (h_o.c _) (by omega) (by omega)) ?_
      refine wr_y rfl (y_assign rfl) ?_
      refine wr_nil ?_
      refine w_seq ?_
      refine w_seq ?_
      refine w_reg ?_
      refine wr_y rfl (y_move rfl) ?_
      refine wr_y rfl (y_move rfl) ?_
      refine wr_y rfl (y_index1 Tryz.underlying24 sz3 rfl rfl (rdr 1 rfl) (by omega) (by omega)) ?_
      refine wr_y rfl (y_ldI Tryz.underlying3 rfl rfl (rdr 1 rfl) (by omega) (by omega)) ?_
      refine wr_y rfl (y_eq rfl rfl) ?_
      refine wr_nil ?_
      refine w_if rfl (fun hc4 => ?_) (fun hc4 => ?_)
      ·
        have hfq := hoz2.1 hc4
        refine w_exit ?_
        refine w_reg ?_
        refine wr_y rfl (y_addI rfl rfl (by omega)) ?_
        refine wr_y rfl (y_move rfl) ?_
        refine wr_nil ?_
        exact ⟨q + 1, U, n, la, ⟨(by omega), (by omega), (hM.skip hfq)⟩, (by omega), (Sub.cons rfl (Sub.cons rfl (Sub.cons rfl (Sub.cons rfl (Sub.cons rfl (Sub.cons rfl (Sub.cons rfl (Sub.cons rfl (Sub.cons rfl Sub.nil))))))))), fun _ h => h⟩
      ·
        have hfq : fstB s (rd o q) = true := by
          cases e : fstB s (rd o q) with
          | true => rfl
          | false => exact absurd (hoz2.2 e) hc4
        have hgx := hV2.nx hoq2.1 hoq2.2 hfq
        have hg1 := hgx.gt
        have hg2 := hgx.le
        have hlm : -1 ≤ la := by omega
        refine w_skip ?_
        refine w_seq ?_
        refine w_seq ?_
        refine w_reg ?_
        refine wr_y rfl (y_move rfl) ?_
        refine wr_y rfl (y_ge rfl rfl) ?_
        refine wr_y rfl (y_move rfl) ?_
        refine wr_mid 29 [(0, .slice A_s s.length c_s), (1, .slice A_f f.length c_f), (8, .slice (some ⟨g_1, 0, none⟩) s.length s.length), (11, .slice (some ⟨g_2, 0, none⟩) s.length s.length), (12, .int .i64 n), (15, .int .i64 (rd o q)), (51, .slice A_o o.length c_o), (52, .int .i64 ((o.length : Nat) : Int)), (53, .int .i64 q), (93, .bool (decide ((0 ≤ la) ∧ ((((rd V (rd o q)) = ((s.length : Nat) : Int)) ∨ ((rd V la) = ((s.length : Nat) : Int))) ∨ (¬ ((((s).drop (la).toNat).take ((min (rd V la + 1) ((s.length : Nat) : Int)).toNat - la.toNat)) = (((s).drop (rd o q).toNat).take ((min (rd V (rd o q) + 1) ((s.length : Nat) : Int)).toNat - (rd o q).toNat))))))))] [⟨3, 1, (some ⟨g_2, 0, none⟩), s.length, s.length, ints .i64 U, false⟩, ⟨3, 1, (some ⟨g_1, 0, none⟩), s.length, s.length, ints .i64 V, false⟩] ?_ ?_
        ·
          refine wr_case 64 rfl (fun hc5 => ?_) (fun hc5 => ?_)
          ·
            refine wr_yes rfl rfl ?_
            refine wr_y rfl (y_move rfl) ?_
            refine wr_yes rfl rfl ?_
            refine wr_y rfl (y_move rfl) ?_
            refine wr_yes rfl rfl ?_
            refine wr_y rfl (y_index1 Tryz.underlying24 sz3 rfl rfl (rdr 1 rfl) (by omega) (by omega)) ?_
            refine wr_yes rfl rfl ?_
            refine wr_y rfl (y_ldI Tryz.underlying3 rfl rfl (rdr 1 rfl) (by omega) (by omega)) ?_
            refine wr_yes rfl rfl ?_
            refine wr_y rfl (y_move rfl) ?_
            refine wr_yes rfl rfl ?_
            refine wr_y rfl (y_len Tryz.underlying24 rfl) ?_
            refine wr_yes rfl rfl ?_
            refine wr_y rfl (y_eq rfl rfl) ?_
            refine wr_yes rfl rfl ?_
            refine wr_y rfl (y_move rfl) ?_
            refine wr_mid 8 [(0, .slice A_s s.length c_s), (1, .slice A_f f.length c_f), (8, .slice (some ⟨g_1, 0, none⟩) s.length s.length), (11, .slice (some ⟨g_2, 0, none⟩) s.length s.length), (12, .int .i64 n), (13, .int .i64 la), (15, .int .i64 (rd o q)), (51, .slice A_o o.length c_o), (52, .int .i64 ((o.length : Nat) : Int)), (53, .int .i64 q), (64, .bool true), (80, .bool (decide (((rd V (rd o q)) = ((s.length : Nat) : Int)) ∨ ((rd V la) = ((s.length : Nat) : Int)))))] [⟨3, 1, (some ⟨g_2, 0, none⟩), s.length, s.length, ints .i64 U, false⟩, ⟨3, 1, (some ⟨g_1, 0, none⟩), s.length, s.length, ints .i64 V, false⟩] ?_ ?_
            ·
              refine wr_case 72 rfl (fun hc6 => ?_) (fun hc6 => ?_)
              ·
                refine wr_no rfl rfl rfl rfl ?_
                refine wr_no rfl rfl rfl rfl ?_
                refine wr_no rfl rfl rfl rfl ?_
                refine wr_no rfl rfl rfl rfl ?_
                refine wr_no rfl rfl rfl rfl ?_
                refine wr_no rfl rfl rfl rfl ?_
                refine wr_no rfl rfl rfl rfl ?_
                refine wr_yes rfl rfl ?_
                refine wr_y rfl (y_pickT rfl rfl) ?_
                refine wr_nil ?_
                exact ⟨(Sub.cons rfl (Sub.cons rfl (Sub.cons rfl (Sub.cons rfl (Sub.cons rfl (Sub.cons rfl (Sub.cons rfl (Sub.cons rfl (Sub.cons rfl (Sub.cons rfl (Sub.cons rfl (Sub.to rfl (mb_t (by first | omega | exact ⟨fun h => ⟨(by assumption), h⟩, fun h => h.2⟩ | exact .inl (by assumption) | exact ⟨.inr, fun h => h.resolve_left (by assumption)⟩ | exact ⟨fun h => h.resolve_left (by assumption), .inr⟩ | simp [*])) Sub.nil)))))))))))), fun _ h => h⟩
              ·
                refine wr_yes rfl rfl ?_
                refine wr_y rfl (y_move rfl) ?_
                refine wr_yes rfl rfl ?_
                refine wr_y rfl (y_move rfl) ?_
                refine wr_yes rfl rfl ?_
                refine wr_y rfl (y_index1 Tryz.underlying24 sz3 rfl rfl (rdr 1 rfl) (by omega) (by omega)) ?_
                refine wr_yes rfl rfl ?_
                refine wr_y rfl (y_ldI Tryz.underlying3 rfl rfl (rdr 1 rfl) (by omega) (by omega)) ?_
                refine wr_yes rfl rfl ?_
                refine wr_y rfl (y_move rfl) ?_
                refine wr_yes rfl rfl ?_
                refine wr_y rfl (y_len Tryz.underlying24 rfl) ?_
                refine wr_yes rfl rfl ?_
                refine wr_y rfl (y_eq rfl rfl) ?_
                refine wr_yes rfl rfl ?_
                refine wr_y rfl (y_pickF rfl rfl) ?_
                refine wr_nil ?_
                exact ⟨(Sub.cons rfl (Sub.cons rfl (Sub.cons rfl (Sub.cons rfl (Sub.cons rfl (Sub.cons rfl (Sub.cons rfl (Sub.cons rfl (Sub.cons rfl (Sub.cons rfl (Sub.cons rfl (Sub.to rfl (mb (by first | omega | exact ⟨fun h => ⟨(by assumption), h⟩, fun h => h.2⟩ | exact .inl (by assumption) | exact ⟨.inr, fun h => h.resolve_left (by assumption)⟩ | exact ⟨fun h => h.resolve_left (by assumption), .inr⟩ | simp [*])) Sub.nil)))))))))))), fun _ h => h⟩
            refine wr_yes rfl rfl ?_
            refine wr_y rfl (y_move rfl) ?_
            refine wr_mid 11 [(0, .slice A_s s.length c_s), (1, .slice A_f f.length c_f), (8, .slice (some ⟨g_1, 0, none⟩) s.length s.length), (11, .slice (some ⟨g_2, 0, none⟩) s.length s.length), (12, .int .i64 n), (15, .int .i64 (rd o q)), (51, .slice A_o o.length c_o), (52, .int .i64 ((o.length : Nat) : Int)), (53, .int .i64 q), (64, .bool true), (92, .bool (decide ((((rd V (rd o q)) = ((s.length : Nat) : Int)) ∨ ((rd V la) = ((s.length : Nat) : Int))) ∨ (¬ ((((s).drop (la).toNat).take ((min (rd V la + 1) ((s.length : Nat) : Int)).toNat - la.toNat)) = (((s).drop (rd o q).toNat).take ((min (rd V (rd o q) + 1) ((s.length : Nat) : Int)).toNat - (rd o q).toNat)))))))] [⟨3, 1, (some ⟨g_2, 0, none⟩), s.length, s.length, ints .i64 U, false⟩, ⟨3, 1, (some ⟨g_1, 0, none⟩), s.length, s.length, ints .i64 V, false⟩] ?_ ?_
            ·
              refine wr_case 81 rfl (fun hc7 => ?_) (fun hc7 => ?_)
              ·
                refine wr_no rfl rfl rfl rfl ?_
                refine wr_no rfl rfl rfl rfl ?_
                refine wr_no rfl rfl rfl rfl ?_
                refine wr_no rfl rfl rfl rfl ?_
                refine wr_no rfl rfl rfl rfl ?_
                refine wr_no rfl rfl rfl rfl ?_
                refine wr_no rfl rfl rfl rfl ?_
                refine wr_no rfl rfl rfl rfl ?_
                refine wr_no rfl rfl rfl rfl ?_
                refine wr_no rfl rfl rfl rfl ?_
                refine wr_yes rfl rfl ?_
                refine wr_y rfl (y_pickT rfl rfl) ?_
                refine wr_nil ?_
                exact ⟨(Sub.cons rfl (Sub.cons rfl (Sub.cons rfl (Sub.cons rfl (Sub.cons rfl (Sub.cons rfl (Sub.cons rfl (Sub.cons rfl (Sub.cons rfl (Sub.cons rfl (Sub.to rfl (mb_t (by first | omega | exact ⟨fun h => ⟨(by assumption), h⟩, fun h => h.2⟩ | exact .inl (by assumption) | exact ⟨.inr, fun h => h.resolve_left (by assumption)⟩ | exact ⟨fun h => h.resolve_left (by assumption), .inr⟩ | simp [*])) Sub.nil))))))))))), fun _ h => h⟩
              ·
                refine wr_yes rfl rfl ?_
                refine wr_y rfl (y_move rfl) ?_
                refine wr_yes rfl rfl ?_
                refine wr_y rfl (y_move rfl) ?_
                refine wr_yes rfl rfl ?_
                refine wr_y rfl (y_move rfl) ?_
                refine wr_yes rfl rfl ?_
                refine wr_a rfl (a_callF en345 rfl (Ct.quiet (fun w hw => piece_ct ((h_s.c _) w hw) ((rdr 1 rfl) w hw) (by first | assumption | omega | decide) (by first | assumption | omega | decide) (by first | assumption | omega | decide) (by first | assumption | omega | decide) (by first | assumption | omega | decide)))) ?_
                rintro _ _ ⟨rfl, rfl⟩
                refine wr_yes rfl rfl ?_
                refine wr_y rfl (y_move rfl) ?_
                refine wr_yes rfl rfl ?_
                refine wr_y rfl (y_move rfl) ?_
                refine wr_yes rfl rfl ?_
                refine wr_y rfl (y_move rfl) ?_
                refine wr_yes rfl rfl ?_
                refine wr_a rfl (a_callF en345 rfl (Ct.quiet (fun w hw => piece_ct ((h_s.c _) w hw) ((rdr 1 rfl) w hw) (by first | assumption | omega | decide) (by first | assumption | omega | decide) (by first | assumption | omega | decide) (by first | assumption | omega | decide) (by first | assumption | omega | decide)))) ?_
                rintro _ _ ⟨rfl, rfl⟩
                refine wr_yes rfl rfl ?_
                refine wr_a rfl (a_callF en71 rfl (Ct.quiet (fun w hw => equalI_ct ((RdC.cutI (h_s.c _) (by omega) (by omega)) w hw) ((RdC.cutI (h_s.c _) (by omega) (by omega)) w hw) (by rw [List.length_take, List.length_drop]; omega)))) ?_
                rintro _ _ ⟨rfl, rfl⟩
                refine wr_yes rfl rfl ?_
                refine wr_y rfl (y_notD rfl) ?_
                refine wr_yes rfl rfl ?_
                refine wr_y rfl (y_pickF rfl rfl) ?_
                refine wr_nil ?_
                exact ⟨(Sub.cons rfl (Sub.cons rfl (Sub.cons rfl (Sub.cons rfl (Sub.cons rfl (Sub.cons rfl (Sub.cons rfl (Sub.cons rfl (Sub.cons rfl (Sub.cons rfl (Sub.to rfl (mb (by first | omega | exact ⟨fun h => ⟨(by assumption), h⟩, fun h => h.2⟩ | exact .inl (by assumption) | exact ⟨.inr, fun h => h.resolve_left (by assumption)⟩ | exact ⟨fun h => h.resolve_left (by assumption), .inr⟩ | simp [*])) Sub.nil))))))))))), fun _ h => h⟩
            refine wr_y rfl (y_pickT rfl rfl) ?_
            refine wr_nil ?_
            exact ⟨(Sub.cons rfl (Sub.cons rfl (Sub.cons rfl (Sub.cons rfl (Sub.cons rfl (Sub.cons rfl (Sub.cons rfl (Sub.cons rfl (Sub.cons rfl (Sub.to rfl (mb (by first | omega | exact ⟨fun h => ⟨(by assumption), h⟩, fun h => h.2⟩ | exact .inl (by assumption) | exact ⟨.inr, fun h => h.resolve_left (by assumption)⟩ | exact ⟨fun h => h.resolve_left (by assumption), .inr⟩ | simp [*])) Sub.nil)))))))))), fun _ h => h⟩
          ·
            refine wr_no rfl rfl rfl rfl ?_
            refine wr_no rfl rfl rfl rfl ?_
            refine wr_no rfl rfl rfl rfl ?_
            refine wr_no rfl rfl rfl rfl ?_
            refine wr_no rfl rfl rfl rfl ?_
            refine wr_no rfl rfl rfl rfl ?_
            refine wr_no rfl rfl rfl rfl ?_
            refine wr_no rfl rfl rfl rfl ?_
            refine wr_nou rfl rfl rfl ?_
            refine wr_nou rfl rfl rfl ?_
            refine wr_nou rfl rfl rfl ?_
            refine wr_nou rfl rfl rfl ?_
            refine wr_nou rfl rfl rfl ?_
            refine wr_nou rfl rfl rfl ?_
            refine wr_nou rfl rfl rfl ?_
            refine wr_no rfl rfl rfl rfl ?_
            refine wr_no rfl rfl rfl rfl ?_
            refine wr_nou rfl rfl rfl ?_
            refine wr_nou rfl rfl rfl ?_
            refine wr_nou rfl rfl rfl ?_
            refine wr_nou rfl rfl rfl ?_
            refine wr_nou rfl rfl rfl ?_
            refine wr_nou rfl rfl rfl ?_
            refine wr_nou rfl rfl rfl ?_
            refine wr_nou rfl rfl rfl ?_
            refine wr_nou rfl rfl rfl ?_
            refine wr_nou rfl rfl rfl ?_
            refine wr_no rfl rfl rfl rfl ?_
            refine wr_y rfl (y_pickF rfl rfl) ?_
            refine wr_nil ?_
            exact ⟨(Sub.cons rfl (Sub.cons rfl (Sub.cons rfl (Sub.cons rfl (Sub.cons rfl (Sub.cons rfl (Sub.cons rfl (Sub.cons rfl (Sub.cons rfl (Sub.to rfl (mb_f (by first | omega | exact ⟨fun h => ⟨(by assumption), h⟩, fun h => h.2⟩ | exact .inl (by assumption) | exact ⟨.inr, fun h => h.resolve_left (by assumption)⟩ | exact ⟨fun h => h.resolve_left (by assumption), .inr⟩ | simp [*])) Sub.nil)))))))))), fun _ h => h⟩
        refine wr_nil ?_
        refine w_if rfl (fun hc8 => ?_) (fun hc8 => ?_)
        ·
          have hst := name_new (n := n) hlx hoq2.1 hg1 hg2 hc8
          refine w_reg ?_
          refine wr_y rfl (y_move rfl) ?_
          refine wr_y rfl (y_addI rfl rfl (by omega)) ?_
          refine wr_y rfl (y_assign rfl) ?_
          refine wr_nil ?_
          refine w_reg ?_
          refine wr_y rfl (y_move rfl) ?_
          refine wr_y rfl (y_move rfl) ?_
          refine wr_y rfl (y_move rfl) ?_
          refine wr_y rfl (y_move rfl) ?_
          refine wr_y rfl (y_index1 Tryz.underlying24 sz3 rfl rfl (rdr 0 rfl) (by omega) (by omega)) ?_
          refine wr_n (a_storeI 0 rfl sz3 rfl rfl (by omega) (by omega)) ?_
          rintro _ _ rfl
          refine wr_rows (R1 := [⟨3, 1, (some ⟨g_2, 0, none⟩), s.length, s.length, ints .i64 (upd U (rd o q) (n + 1)), false⟩, ⟨3, 1, (some ⟨g_1, 0, none⟩), s.length, s.length, ints .i64 V, false⟩]) rfl ?_
          refine wr_y rfl (y_assign rfl) ?_
          refine wr_nil ?_
          refine w_reg ?_
          refine wr_y rfl (y_addI rfl rfl (by omega)) ?_
          refine wr_y rfl (y_move rfl) ?_
          refine wr_nil ?_
          exact ⟨q + 1, upd U (rd o q) (n + 1), n + 1, rd o q, ⟨(by omega), (by omega), (hM.step hs hop hoo hV2 hq0 (by omega) hfq hst)⟩, (by omega), (Sub.cons rfl (Sub.cons rfl (Sub.cons rfl (Sub.cons rfl (Sub.cons rfl (Sub.cons rfl (Sub.cons rfl (Sub.cons rfl (Sub.cons rfl Sub.nil))))))))), fun _ h => h⟩
        ·
          have hst := name_old (n := n) hlm hlx hoq2.1 hg1 hg2 hc8
          refine w_skip ?_
          refine w_reg ?_
          refine wr_y rfl (y_move rfl) ?_
          refine wr_y rfl (y_move rfl) ?_
          refine wr_y rfl (y_move rfl) ?_
          refine wr_y rfl (y_move rfl) ?_
          refine wr_y rfl (y_index1 Tryz.underlying24 sz3 rfl rfl (rdr 0 rfl) (by omega) (by omega)) ?_
          refine wr_n (a_storeI 0 rfl sz3 rfl rfl (by omega) (by omega)) ?_
          rintro _ _ rfl
          refine wr_rows (R1 := [⟨3, 1, (some ⟨g_2, 0, none⟩), s.length, s.length, ints .i64 (upd U (rd o q) n), false⟩, ⟨3, 1, (some ⟨g_1, 0, none⟩), s.length, s.length, ints .i64 V, false⟩]) rfl ?_
          refine wr_y rfl (y_assign rfl) ?_
          refine wr_nil ?_
          refine w_reg ?_
          refine wr_y rfl (y_addI rfl rfl (by omega)) ?_
          refine wr_y rfl (y_move rfl) ?_
          refine wr_nil ?_
          exact ⟨q + 1, upd U (rd o q) n, n, rd o q, ⟨(by omega), (by omega), (hM.step hs hop hoo hV2 hq0 (by omega) hfq hst)⟩, (by omega), (Sub.cons rfl (Sub.cons rfl (Sub.cons rfl (Sub.cons rfl (Sub.cons rfl (Sub.cons rfl (Sub.cons rfl (Sub.cons rfl (Sub.cons rfl Sub.nil))))))))), fun _ h => h⟩
    ·
      refine w_exit ?_
      refine w_seq ?_
      refine w_reg ?_
      refine wr_sub (R1 := [⟨3, 1, none, 0, 0, ints .i64 ([]), false⟩, ⟨3, 1, (some ⟨g_2, 0, none⟩), s.length, s.length, ints .i64 U, false⟩, ⟨3, 1, (some ⟨g_1, 0, none⟩), s.length, s.length, ints .i64 V, false⟩]) (Sub.refl _) (fun _ h => h.nil 3 1) ?_
      refine wr_y rfl (y_assign rfl) ?_
      refine wr_nil ?_
      refine w_seq ?_
      refine w_seq ?_
      refine w_reg ?_
      refine wr_y rfl (y_move rfl) ?_
      refine wr_y rfl (y_len Tryz.underlying24 rfl) ?_
      refine wr_y rfl (y_move rfl) ?_
      refine wr_nil ?_
      refine w_block ?_
      refine w_loop5 (fun (A1 : Option Addr) (n1 : Nat) (c1 : Nat) (acc : List Int) (j : Int) => [(11, .slice (some ⟨g_2, 0, none⟩) s.length s.length), (12, .int .i64 n), (16, .slice A1 n1 c1), (102, .slice A_f f.length c_f), (103, .int .i64 ((f.length : Nat) : Int)), (104, .int .i64 j)]) (fun (A1 : Option Addr) (n1 : Nat) (c1 : Nat) (acc : List Int) (j : Int) => [⟨3, 1, A1, n1, c1, ints .i64 acc, false⟩, ⟨3, 1, (some ⟨g_2, 0, none⟩), s.length, s.length, ints .i64 U, false⟩, ⟨3, 1, (some ⟨g_1, 0, none⟩), s.length, s.length, ints .i64 V, false⟩]) (fun (A1 : Option Addr) (n1 : Nat) (c1 : Nat) (acc : List Int) (j : Int) => (n1 = acc.length) ∧ (0 ≤ j) ∧ (j ≤ f.length) ∧ (acc = (f.take j.toNat).map (rd U))) (fun (A1 : Option Addr) (n1 : Nat) (c1 : Nat) (acc : List Int) (j : Int) => (f.length - j).toNat) ?_ ?_
      ·
        exact ⟨none, 0, 0, [], 0, ⟨(rfl), (by omega), (by omega), (rfl)⟩, (Sub.cons rfl (Sub.cons rfl (Sub.cons rfl (Sub.cons rfl (Sub.cons rfl (Sub.cons rfl Sub.nil)))))), fun _ h => h⟩
      intro A1 n1 c1 acc j ⟨hn1, hj0, hj1, hacc⟩
      have hal := congrArg List.length hacc
      rw [List.length_map, List.length_take] at hal
      have hfj : j < f.length → 0 ≤ rd f j ∧ rd f j < s.length := fun h => by subst hf; exact (fstL_at hj0 h).1
      refine w_seq ?_
      refine w_reg ?_
      refine wr_y rfl (y_lt rfl rfl) ?_
      refine wr_nil ?_
      refine w_seq ?_
      refine w_if rfl (fun hc9 => ?_) (fun hc9 => ?_)
      ·
        refine w_skip ?_
        refine w_seq ?_
        refine w_block ?_
        refine w_seq ?_
        refine w_reg ?_
        refine wr_y rfl (y_index1 Tryz.underlying24 sz3 rfl rfl (h_f.c _) (by omega) (by omega)) ?_
        refine wr_y rfl (y_ldI Tryz.underlying3 rfl rfl (h_f.c _) (by omega) (by omega)) ?_
        refine wr_y rfl (y_assign rfl) ?_
        refine wr_nil ?_
        refine w_reg ?_
        refine wr_y rfl (y_move rfl) ?_
        refine wr_y rfl (y_move rfl) ?_
        refine wr_y rfl (y_move rfl) ?_
        refine wr_y rfl (y_index1 Tryz.underlying24 sz3 rfl rfl (rdr 1 rfl) (by omega) (by omega)) ?_
        refine wr_y rfl (y_ldI Tryz.underlying3 rfl rfl (rdr 1 rfl) (by omega) (by omega)) ?_
        refine wr_a rfl (a_litI .i64 [rd U (rd f j)] Tryz.underlying24 zs3 rfl rfl rfl) ?_
        rintro _ _ ⟨g_4, rfl, rfl⟩
        refine wr_a rfl (a_appendI 1 rfl Tryz.underlying24 zb3 rfl rfl rfl (rdr 0 rfl) (by omega)) ?_
        rintro _ _ ⟨A_5, c_6, rfl, rfl⟩
        refine wr_rows (R1 := [⟨3, 1, (some ⟨g_4, 0, none⟩), 1, 1, ints .i64 ([rd U (rd f j)]), false⟩, ⟨3, 1, A_5, (n1 + 1), c_6, ints .i64 (acc ++ ([rd U (rd f j)])), false⟩, ⟨3, 1, (some ⟨g_2, 0, none⟩), s.length, s.length, ints .i64 U, false⟩, ⟨3, 1, (some ⟨g_1, 0, none⟩), s.length, s.length, ints .i64 V, false⟩]) rfl ?_
        refine wr_as (v := .slice A_5 (n1 + 1) c_6) rfl ?_
        refine wr_y rfl (y_assign rfl) ?_
        refine wr_nil ?_
        refine w_reg ?_
        refine wr_y rfl (y_addI rfl rfl (by omega)) ?_
        refine wr_y rfl (y_move rfl) ?_
        refine wr_nil ?_
        exact ⟨A_5, n1 + 1, c_6, acc ++ ([rd U (rd f j)]), j + 1, ⟨(by rw [List.length_append, hn1]; try rfl), (by omega), (by omega), (by rw [take_rd hj0 (by omega), List.map_append, hacc]; rfl)⟩, (by omega), (Sub.cons rfl (Sub.cons rfl (Sub.cons rfl (Sub.cons rfl (Sub.cons rfl (Sub.cons rfl Sub.nil)))))), fun _ h => h.sel [1, 2, 3] (by decide) rfl⟩
      ·
        refine w_exit ?_
        refine w_seq ?_
        refine w_reg ?_
        refine wr_y rfl (y_move rfl) ?_
        refine wr_y rfl (y_move rfl) ?_
        refine wr_y rfl (y_addI rfl rfl (by omega)) ?_
        refine wr_y rfl (y_assign rfl) ?_
        refine wr_y rfl (y_assign rfl) ?_
        refine wr_nil ?_
        refine w_retR (R1 := [⟨3, 1, A1, n1, c1, ints .i64 acc, false⟩]) (fun _ h => h.sel [0] (by decide) rfl) ?_
        refine ⟨_, _, rfl, rfl, ?_⟩
        have hM2 : NamI s o V s.length U n la := by have e : q = s.length := (by omega); rw [← e]; exact hM
        rw [List.take_of_length_le (by omega)] at hacc
        subst hacc
        obtain rfl : n1 = f.length := by omega
        exact ⟨V, U, n, la, _, _, rfl, hV2, hM2, rfl⟩

set_option maxRecDepth 100000 in
set_option maxHeartbeats 1000000 in
theorem sortedStep_ct {w : World} {A_s : Option Addr} {n_s c_s : Nat} {s : List Int} {k : Int} (h_s : Rd w A_s n_s c_s 1 (ints .i64 s)) (IH : ∀ {w : World} {A_t : Option Addr} {n_t c_t : Nat} {t : List Int} {j : Int}, Rd w A_t n_t c_t 1 (ints .i64 t) → t.length < s.length → ((0 ≤ j ∧ j ≤ 1048576) ∧ ∀ x ∈ t, 0 ≤ x ∧ x < j) → t.length ≤ 1000000 → Ct Tryz.prog 266 #[.slice A_t n_t c_t, .int .i64 j] w.heap.size w [] (fun v R' => ∃ (b : List Int) (A : Option Addr) (c : Nat), v = .slice A t.length c ∧ b.Perm (iota t.length) ∧ b.Pairwise (ordE t) ∧ R' = [⟨3, 1, A, t.length, c, ints .i64 b, false⟩])) (hok : (0 ≤ k ∧ k ≤ 1048576) ∧ ∀ x ∈ s, 0 ≤ x ∧ x < k) (hN : s.length ≤ 1000000) :
    Ct Tryz.prog 266 #[.slice A_s n_s c_s, .int .i64 k] w.heap.size w [] (fun v R' => ∃ (b : List Int) (A : Option Addr) (c : Nat), v = .slice A s.length c ∧ b.Perm (iota s.length) ∧ b.Pairwise (ordE s) ∧ R' = [⟨3, 1, A, s.length, c, ints .i64 b, false⟩]) := by
  obtain rfl := h_s.lenI
  refine fn1 Tryz.func266 rfl rfl rfl ?_
  have m_s := h_s.max
  refine w_seq ?_
  refine w_reg ?_
  refine wr_y rfl (y_assign rfl) ?_
  refine wr_nil ?_
  refine w_seq ?_
  refine w_reg ?_
  refine wr_y rfl (y_move rfl) ?_
  refine wr_a rfl (a_callF en313 rfl (Ct.fresh (fun w hw => first_ct ((h_s.c _) w hw) (by first | assumption | omega | decide)))) ?_
  rintro _ _ ⟨_, rfl, A_1, c_2, rfl, rfl⟩
  refine wr_y rfl (y_assign rfl) ?_
  refine wr_nil ?_
  refine w_seq ?_
  refine w_reg ?_
  refine wr_y rfl (y_move rfl) ?_
  refine wr_y rfl (y_move rfl) ?_
  refine wr_y rfl (y_move rfl) ?_
  refine wr_a rfl (a_callF en314 rfl (Ct.fresh (fun w hw => sort_ct ((h_s.c _) w hw) ((rdr 0 rfl) w hw) hok (.refl _) hN))) ?_
  rintro _ _ ⟨_, rfl, A_3, c_4, rfl, rfl⟩
  refine wr_y rfl (y_move rfl) ?_
  refine wr_y rfl (y_extract rfl rfl) ?_
  refine wr_y rfl (y_extract rfl rfl) ?_
  refine wr_y rfl (y_assign rfl) ?_
  refine wr_y rfl (y_assign rfl) ?_
  refine wr_nil ?_
  refine w_seq ?_
  refine w_seq ?_
  refine w_reg ?_
  refine wr_y rfl (y_move rfl) ?_
  refine wr_y rfl (y_len Tryz.underlying24 rfl) ?_
  refine wr_y rfl (y_lt rfl rfl) ?_
  refine wr_nil ?_
  refine w_if rfl (fun hc1 => ?_) (fun hc1 => ?_)
  ·
    refine w_seq ?_
    refine w_reg ?_
    refine wr_y rfl (y_move rfl) ?_
    refine wr_y rfl (y_assign rfl) ?_
    refine wr_nil ?_
    refine w_retR (R1 := [⟨3, 1, A_3, ((s).length), c_4, ints .i64 (indS s k (fstL s)), false⟩]) (fun _ h => h.sel [0] (by decide) rfl) ?_
    refine ⟨_, rfl, ?_⟩
    exact ⟨_, _, _, rfl, (ind_facts hok.1.1 hok.2 (.refl _)).2.1, (ind_facts hok.1.1 hok.2 (.refl _)).2.2.2 (pw_short (by omega)), rfl⟩
  ·
    have hn1 : 0 < s.length := by have := fstL_len (s := s); omega
    have hpc := ind_pieces hok.1.1 hok.2 (l := fstL s) (.refl _) hn1
    have hsn : Nn s := fun x hx => (hok.2 x hx).1
    have hless := fstL_less hn1
    refine w_skip ?_
    refine w_seq ?_
    refine w_reg ?_
    refine wr_y rfl (y_move rfl) ?_
    refine wr_y rfl (y_move rfl) ?_
    refine wr_y rfl (y_move rfl) ?_
    refine wr_a rfl (a_callF en315 rfl (Ct.fresh (fun w hw => named_ct ((h_s.c _) w hw) ((rdr 1 rfl) w hw) ((rdr 0 rfl) w hw) hsn rfl hpc.1 hpc.2 hN))) ?_
    rintro _ _ ⟨_, rfl, nx, nm, n, la, A_6, c_7, rfl, hNx, hNm, rfl⟩
    refine wr_y rfl (y_move rfl) ?_
    refine wr_y rfl (y_extract rfl rfl) ?_
    refine wr_y rfl (y_extract rfl rfl) ?_
    refine wr_y rfl (y_assign rfl) ?_
    refine wr_y rfl (y_assign rfl) ?_
    refine wr_nil ?_
    refine w_seq ?_
    refine w_reg ?_
    refine wr_sub (R1 := [⟨3, 1, none, 0, 0, ints .i64 ([]), false⟩, ⟨3, 1, A_6, (fstL s).length, c_7, ints .i64 ((fstL s).map (rd nm)), false⟩, ⟨3, 1, A_3, ((s).length), c_4, ints .i64 (indS s k (fstL s)), false⟩, ⟨3, 1, A_1, (fstL s).length, c_2, ints .i64 (fstL s), false⟩]) (Sub.refl _) (fun _ h => h.nil 3 1) ?_
    refine wr_y rfl (y_assign rfl) ?_
    refine wr_nil ?_
    refine w_seq ?_
    refine w_seq ?_
    refine w_reg ?_
    refine wr_y rfl (y_move rfl) ?_
    refine wr_y rfl (y_move rfl) ?_
    refine wr_a rfl (a_callF en266 rfl (Ct.fresh (fun w hw => IH ((rdr 1 rfl) w hw) (by rw [List.length_map]; exact hless) ⟨by have := hNm.bd; omega, names_in hNm hpc.1⟩ (by rw [List.length_map]; omega)))) ?_
    rintro _ _ ⟨_, rfl, b1, A_9, c_10, rfl, hp_b1, hs_b1, rfl⟩
    refine wr_y rfl (y_len Tryz.underlying24 rfl) ?_
    refine wr_y rfl (y_move rfl) ?_
    refine wr_nil ?_
    refine w_block ?_
    refine w_loop5 (fun (A1 : Option Addr) (n1 : Nat) (c1 : Nat) (acc : List Int) (i : Int) => [(0, .slice A_s s.length c_s), (1, .int .i64 k), (5, .slice A_1 ((fstL s).length) c_2), (10, .slice A1 n1 c1), (35, .slice A_9 (((fstL s).map (rd nm)).length) c_10), (36, .int .i64 ((((fstL s).map (rd nm)).length : Nat) : Int)), (37, .int .i64 i)]) (fun (A1 : Option Addr) (n1 : Nat) (c1 : Nat) (acc : List Int) (i : Int) => [⟨3, 1, A_9, ((fstL s).map (rd nm)).length, c_10, ints .i64 b1, false⟩, ⟨3, 1, A1, n1, c1, ints .i64 acc, false⟩, ⟨3, 1, A_6, (fstL s).length, c_7, ints .i64 ((fstL s).map (rd nm)), false⟩, ⟨3, 1, A_3, ((s).length), c_4, ints .i64 (indS s k (fstL s)), false⟩, ⟨3, 1, A_1, (fstL s).length, c_2, ints .i64 (fstL s), false⟩]) (fun (A1 : Option Addr) (n1 : Nat) (c1 : Nat) (acc : List Int) (i : Int) => (n1 = acc.length) ∧ (0 ≤ i) ∧ (i ≤ b1.length) ∧ (acc = (b1.take i.toNat).map (rd (fstL s)))) (fun (A1 : Option Addr) (n1 : Nat) (c1 : Nat) (acc : List Int) (i : Int) => (b1.length - i).toNat) ?_ ?_
    ·
      exact ⟨none, 0, 0, [], 0, ⟨(rfl), (by omega), (by omega), (rfl)⟩, (Sub.cons rfl (Sub.cons rfl (Sub.cons rfl (Sub.cons rfl (Sub.cons rfl (Sub.cons rfl (Sub.cons rfl Sub.nil))))))), fun _ h => h⟩
    intro A1 n1 c1 acc i ⟨hn1, hi0, hi1, hacc⟩
    have hml : ((fstL s).map (rd nm)).length = (fstL s).length := List.length_map _
    have hbl : b1.length = (fstL s).length := by rw [hp_b1.length_eq, iota_len, List.length_map]
    have hal := congrArg List.length hacc
    rw [List.length_map, List.length_take] at hal
    have hbi : i < b1.length → 0 ≤ rd b1 i ∧ rd b1 i < (fstL s).length := fun h => by
      have := mem_iota.1 (hp_b1.subset (rd_mem (L := b1) hi0 h))
      rwa [List.length_map] at this
    refine w_seq ?_
    refine w_reg ?_
    refine wr_y rfl (y_lt rfl rfl) ?_
    refine wr_nil ?_
    refine w_seq ?_
    refine w_if rfl (fun hc2 => ?_) (fun hc2 => ?_)
    ·
      refine w_skip ?_
      refine w_seq ?_
      refine w_block ?_
      refine w_seq ?_
      refine w_reg ?_
      refine wr_y rfl (y_index1 Tryz.underlying24 sz3 rfl rfl (rdr 0 rfl) (by omega) (by omega)) ?_
      refine wr_y rfl (y_ldI Tryz.underlying3 rfl rfl (rdr 0 rfl) (by omega) (by omega)) ?_
      refine wr_y rfl (y_assign rfl) ?_
      refine wr_nil ?_
      refine w_reg ?_
      refine wr_y rfl (y_move rfl) ?_
      refine wr_y rfl (y_move rfl) ?_
      refine wr_y rfl (y_move rfl) ?_
      refine wr_y rfl (y_index1 Tryz.underlying24 sz3 rfl rfl (rdr 4 rfl) (by omega) (by omega)) ?_
      refine wr_y rfl (y_ldI Tryz.underlying3 rfl rfl (rdr 4 rfl) (by omega) (by omega)) ?_
      refine wr_a rfl (a_litI .i64 [rd (fstL s) (rd b1 i)] Tryz.underlying24 zs3 rfl rfl rfl) ?_
      rintro _ _ ⟨g_13, rfl, rfl⟩
      refine wr_a rfl (a_appendI 2 rfl Tryz.underlying24 zb3 rfl rfl rfl (rdr 0 rfl) (by omega)) ?_
      rintro _ _ ⟨A_14, c_15, rfl, rfl⟩
      refine wr_rows (R1 := [⟨3, 1, (some ⟨g_13, 0, none⟩), 1, 1, ints .i64 ([rd (fstL s) (rd b1 i)]), false⟩, ⟨3, 1, A_9, ((fstL s).map (rd nm)).length, c_10, ints .i64 b1, false⟩, ⟨3, 1, A_14, (n1 + 1), c_15, ints .i64 (acc ++ ([rd (fstL s) (rd b1 i)])), false⟩, ⟨3, 1, A_6, (fstL s).length, c_7, ints .i64 ((fstL s).map (rd nm)), false⟩, ⟨3, 1, A_3, ((s).length), c_4, ints .i64 (indS s k (fstL s)), false⟩, ⟨3, 1, A_1, (fstL s).length, c_2, ints .i64 (fstL s), false⟩]) rfl ?_
      refine wr_as (v := .slice A_14 (n1 + 1) c_15) rfl ?_
      refine wr_y rfl (y_assign rfl) ?_
      refine wr_nil ?_
      refine w_reg ?_
      refine wr_y rfl (y_addI rfl rfl (by omega)) ?_
      refine wr_y rfl (y_move rfl) ?_
      refine wr_nil ?_
      exact ⟨A_14, n1 + 1, c_15, acc ++ ([rd (fstL s) (rd b1 i)]), i + 1, ⟨(by rw [List.length_append, hn1]; try rfl), (by omega), (by omega), (by rw [take_rd hi0 (by omega), List.map_append, hacc]; rfl)⟩, (by omega), (Sub.cons rfl (Sub.cons rfl (Sub.cons rfl (Sub.cons rfl (Sub.cons rfl (Sub.cons rfl (Sub.cons rfl Sub.nil))))))), fun _ h => h.sel [1, 2, 3, 4, 5] (by decide) rfl⟩
    ·
      have hac : acc = b1.map (rd (fstL s)) := by rw [hacc, List.take_of_length_le (by omega)]
      have hr := right_ok hsn hNm hpc.1 hpc.2 hNx hp_b1 hs_b1
      have hap : acc.Perm (fstL s) := by rw [hac]; exact hr.1
      have hao : acc.Pairwise (ordE s) := by rw [hac]; exact hr.2
      refine w_exit ?_
      refine w_seq ?_
      refine w_reg ?_
      refine wr_y rfl (y_move rfl) ?_
      refine wr_y rfl (y_move rfl) ?_
      refine wr_y rfl (y_move rfl) ?_
      refine wr_a rfl (a_callF en314 rfl (Ct.fresh (fun w hw => sort_ct ((h_s.c _) w hw) ((rdr 1 rfl) w hw) hok hap hN))) ?_
      rintro _ _ ⟨_, rfl, A_16, c_17, rfl, rfl⟩
      refine wr_y rfl (y_move rfl) ?_
      refine wr_y rfl (y_extract rfl rfl) ?_
      refine wr_y rfl (y_extract rfl rfl) ?_
      refine wr_y rfl (y_assign rfl) ?_
      refine wr_nil ?_
      refine w_seq ?_
      refine w_reg ?_
      refine wr_y rfl (y_move rfl) ?_
      refine wr_y rfl (y_assign rfl) ?_
      refine wr_nil ?_
      refine w_retR (R1 := [⟨3, 1, A_16, ((s).length), c_17, ints .i64 (indS s k acc), false⟩]) (fun _ h => h.sel [0] (by decide) rfl) ?_
      refine ⟨_, rfl, ?_⟩
      exact ⟨_, _, _, rfl, (ind_facts hok.1.1 hok.2 hap).2.1, (ind_facts hok.1.1 hok.2 hap).2.2.2 hao, rfl⟩

theorem sortedAll (m : Nat) : ∀ {w : World} {A_s : Option Addr} {n_s c_s : Nat} {s : List Int} {k : Int}, Rd w A_s n_s c_s 1 (ints .i64 s) → s.length < m → ((0 ≤ k ∧ k ≤ 1048576) ∧ ∀ x ∈ s, 0 ≤ x ∧ x < k) → s.length ≤ 1000000 →
    Ct Tryz.prog 266 #[.slice A_s n_s c_s, .int .i64 k] w.heap.size w [] (fun v R' => ∃ (b : List Int) (A : Option Addr) (c : Nat), v = .slice A s.length c ∧ b.Perm (iota s.length) ∧ b.Pairwise (ordE s) ∧ R' = [⟨3, 1, A, s.length, c, ints .i64 b, false⟩]) := by
  induction m with
  | zero => intro w A n c s k _ h; omega
  | succ m ih =>
    intro w A n c s k h_s hm hok hN
    exact sortedStep_ct h_s (fun h1 h2 h3 h4 => ih h1 (by omega) h3 h4) hok hN
theorem saisSorted_ct {w : World} {A_s : Option Addr} {n_s c_s : Nat} {s : List Int} {k : Int} (h_s : Rd w A_s n_s c_s 1 (ints .i64 s)) (hok : (0 ≤ k ∧ k ≤ 1048576) ∧ ∀ x ∈ s, 0 ≤ x ∧ x < k) (hN : s.length ≤ 1000000) :
    Ct Tryz.prog 266 #[.slice A_s n_s c_s, .int .i64 k] w.heap.size w [] (fun v R' => ∃ (b : List Int) (A : Option Addr) (c : Nat), v = .slice A s.length c ∧ b.Perm (iota s.length) ∧ b.Pairwise (ordE s) ∧ R' = [⟨3, 1, A, s.length, c, ints .i64 b, false⟩]) := sortedAll (s.length + 1) h_s (by omega) hok hN
set_option maxRecDepth 100000 in
theorem sints_ct {w : World} {A_s : Option Addr} {n_s c_s : Nat} {s : List Int} {k : Int} (h_s : Rd w A_s n_s c_s 1 (ints .i64 s)) (hok : (0 ≤ k ∧ k ≤ 1048576) ∧ ∀ x ∈ s, 0 ≤ x ∧ x < k) (hN : s.length ≤ 100000) :
    Ct Tryz.prog 200 #[.slice A_s n_s c_s, .int .i64 k] w.heap.size w [] (fun v R' => ∃ (b : List Int) (A : Option Addr) (c : Nat), v = .tuple #[.slice A s.length c, .int .i64 0] ∧ b.Perm (iota s.length) ∧ b.Pairwise (ordE s) ∧ R' = [⟨3, 1, A, s.length, c, ints .i64 b, false⟩]) := by
  obtain rfl := h_s.lenI
  refine fn2 Tryz.func200 rfl rfl rfl ?_
  have m_s := h_s.max
  refine w_seq ?_
  refine w_reg ?_
  refine wr_y rfl (y_assign rfl) ?_
  refine wr_y rfl (y_assign rfl) ?_
  refine wr_nil ?_
  refine w_seq ?_
  refine w_seq ?_
  refine w_reg ?_
  refine wr_y rfl (y_move rfl) ?_
  refine wr_y rfl (y_len Tryz.underlying24 rfl) ?_
  refine wr_y rfl (Yl.f (y_gt rfl rfl) (by omega)) ?_
  refine wr_nil ?_
  refine w_false rfl ?_
  refine w_skip ?_
  refine w_seq ?_
  refine w_seq ?_
  refine w_reg ?_
  refine wr_y rfl (y_move rfl) ?_
  refine wr_y rfl (y_move rfl) ?_
  refine wr_a rfl (a_callF en235 rfl (Ct.fresh (fun w hw => countsOk_ct ((h_s.c _) w hw) (by first | assumption | omega | decide)))) ?_
  rintro _ _ ⟨_, rfl, A_1, c_2, rfl, rfl⟩
  refine wr_y rfl (y_move rfl) ?_
  refine wr_y rfl (y_extract rfl rfl) ?_
  refine wr_y rfl (y_extract rfl rfl) ?_
  refine wr_y rfl (y_assign rfl) ?_
  refine wr_y rfl (y_assign rfl) ?_
  refine wr_nil ?_
  refine w_seq ?_
  refine w_reg ?_
  refine wr_y rfl (y_move rfl) ?_
  refine wr_y rfl (y_not rfl) ?_
  refine wr_nil ?_
  refine w_false rfl ?_
  refine w_skip ?_
  refine w_seq ?_
  refine w_reg ?_
  refine wr_y rfl (y_move rfl) ?_
  refine wr_y rfl (y_move rfl) ?_
  refine wr_a rfl (a_callF en266 rfl (Ct.fresh (fun w hw => saisSorted_ct ((h_s.c _) w hw) hok (by omega)))) ?_
  rintro _ _ ⟨_, rfl, b1, A_4, c_5, rfl, hp_b1, hs_b1, rfl⟩
  refine wr_y rfl (y_assign rfl) ?_
  refine wr_y rfl (y_assign rfl) ?_
  refine wr_nil ?_
  refine w_retR (R1 := [⟨3, 1, A_4, s.length, c_5, ints .i64 b1, false⟩]) (fun _ h => h.sel [0] (by decide) rfl) ?_
  refine ⟨_, _, rfl, rfl, ?_⟩
  exact ⟨b1, _, _, rfl, hp_b1, hs_b1, rfl⟩

set_option maxRecDepth 100000 in
theorem sbytes_ct {w : World} {A_u : Option Addr} {n_u c_u : Nat} {u : List Int} (h_u : Rd w A_u n_u c_u 1 (ints .u8 u)) (bh_u : ByteL u) (hN : u.length ≤ 100000) :
    Ct Tryz.prog 124 #[.slice A_u n_u c_u] w.heap.size w [] (fun v R' => ∃ (b : List Int) (A : Option Addr) (c : Nat), v = .tuple #[.slice A u.length c, .int .i64 0] ∧ b.Perm (iota u.length) ∧ b.Pairwise (ordE u) ∧ R' = [⟨3, 1, A, u.length, c, ints .i64 b, false⟩]) := by
  obtain rfl := h_u.lenI
  refine fn2 Tryz.func124 rfl rfl rfl ?_
  have m_u := h_u.max
  refine w_seq ?_
  refine w_reg ?_
  refine wr_y rfl (y_assign rfl) ?_
  refine wr_y rfl (y_assign rfl) ?_
  refine wr_nil ?_
  refine w_seq ?_
  refine w_reg ?_
  refine wr_sub (R1 := [⟨3, 1, none, 0, 0, ints .i64 ([]), false⟩]) (Sub.refl _) (fun _ h => h.nil 3 1) ?_
  refine wr_y rfl (y_assign rfl) ?_
  refine wr_nil ?_
  refine w_seq ?_
  refine w_seq ?_
  refine w_reg ?_
  refine wr_y rfl (y_move rfl) ?_
  refine wr_y rfl (y_len Tryz.underlying23 rfl) ?_
  refine wr_y rfl (Yl.t (y_le rfl rfl) (by omega)) ?_
  refine wr_nil ?_
  refine w_true rfl ?_
  refine w_seq ?_
  refine w_seq ?_
  refine w_reg ?_
  refine wr_y rfl (y_move rfl) ?_
  refine wr_y rfl (y_len Tryz.underlying23 rfl) ?_
  refine wr_y rfl (y_move rfl) ?_
  refine wr_nil ?_
  refine w_block ?_
  refine w_loop5 (fun (A1 : Option Addr) (n1 : Nat) (c1 : Nat) (acc : List Int) (i : Int) => [(4, .slice A1 n1 c1), (10, .slice A_u u.length c_u), (11, .int .i64 ((u.length : Nat) : Int)), (12, .int .i64 i)]) (fun (A1 : Option Addr) (n1 : Nat) (c1 : Nat) (acc : List Int) (i : Int) => [⟨3, 1, A1, n1, c1, ints .i64 acc, false⟩]) (fun (A1 : Option Addr) (n1 : Nat) (c1 : Nat) (acc : List Int) (i : Int) => (n1 = acc.length) ∧ (0 ≤ i) ∧ (i ≤ u.length) ∧ (acc = u.take i.toNat)) (fun (A1 : Option Addr) (n1 : Nat) (c1 : Nat) (acc : List Int) (i : Int) => (u.length - i).toNat) ?_ ?_
  ·
    exact ⟨none, 0, 0, [], 0, ⟨(rfl), (by omega), (by omega), (rfl)⟩, (Sub.cons rfl (Sub.cons rfl (Sub.cons rfl (Sub.cons rfl Sub.nil)))), fun _ h => h⟩
  intro A1 n1 c1 acc i ⟨hn1, hi0, hi1, hacc⟩
  have hal := congrArg List.length hacc
  rw [List.length_take] at hal
  refine w_seq ?_
  refine w_reg ?_
  refine wr_y rfl (y_lt rfl rfl) ?_
  refine wr_nil ?_
  refine w_seq ?_
  refine w_if rfl (fun hc1 => ?_) (fun hc1 => ?_)
  ·
    have hbi := bh_u.rd i
    refine w_skip ?_
    refine w_seq ?_
    refine w_block ?_
    refine w_seq ?_
    refine w_reg ?_
    refine wr_y rfl (y_index1 Tryz.underlying23 sz5 rfl rfl (h_u.c _) (by omega) (by omega)) ?_
    refine wr_y rfl (y_ldI Tryz.underlying5 rfl rfl (h_u.c _) (by omega) (by omega)) ?_
    refine wr_y rfl (y_assign rfl) ?_
    refine wr_nil ?_
    refine w_reg ?_
    refine wr_y rfl (y_move rfl) ?_
    refine wr_y rfl (y_move rfl) ?_
    refine wr_y rfl (y_convI Tryz.underlying5 Tryz.underlying3 rfl (by omega)) ?_
    refine wr_a rfl (a_litI .i64 [rd u i] Tryz.underlying24 zs3 rfl rfl rfl) ?_
    rintro _ _ ⟨g_2, rfl, rfl⟩
    refine wr_a rfl (a_appendI 1 rfl Tryz.underlying24 zb3 rfl rfl rfl (rdr 0 rfl) (by omega)) ?_
    rintro _ _ ⟨A_3, c_4, rfl, rfl⟩
    refine wr_rows (R1 := [⟨3, 1, (some ⟨g_2, 0, none⟩), 1, 1, ints .i64 ([rd u i]), false⟩, ⟨3, 1, A_3, (n1 + 1), c_4, ints .i64 (acc ++ ([rd u i])), false⟩]) rfl ?_
    refine wr_as (v := .slice A_3 (n1 + 1) c_4) rfl ?_
    refine wr_y rfl (y_assign rfl) ?_
    refine wr_nil ?_
    refine w_reg ?_
    refine wr_y rfl (y_addI rfl rfl (by omega)) ?_
    refine wr_y rfl (y_move rfl) ?_
    refine wr_nil ?_
    exact ⟨A_3, n1 + 1, c_4, acc ++ ([rd u i]), i + 1, ⟨(by rw [List.length_append, hn1]; try rfl), (by omega), (by omega), (by rw [take_rd hi0 (by omega), hacc])⟩, (by omega), (Sub.cons rfl (Sub.cons rfl (Sub.cons rfl (Sub.cons rfl Sub.nil)))), fun _ h => h.sel [1] (by decide) rfl⟩
  ·
    have hau : acc = u := by rw [hacc, List.take_of_length_le (by omega)]
    refine w_exit ?_
    refine w_seq ?_
    refine w_reg ?_
    refine wr_y rfl (y_move rfl) ?_
    refine wr_a rfl (a_callF en200 rfl (Ct.fresh (fun w hw => sints_ct ((rdr 0 rfl) w hw) ⟨by omega, fun x hx => by rw [hau] at hx; have := bh_u x hx; omega⟩ (by omega)))) ?_
    rintro _ _ ⟨_, rfl, b1, A_5, c_6, rfl, hp_b1, hs_b1, rfl⟩
    refine wr_y rfl (y_extract rfl rfl) ?_
    refine wr_y rfl (y_extract rfl rfl) ?_
    refine wr_y rfl (y_assign rfl) ?_
    refine wr_y rfl (y_assign rfl) ?_
    refine wr_nil ?_
    refine w_retR (R1 := [⟨3, 1, A_5, acc.length, c_6, ints .i64 b1, false⟩]) (fun _ h => h.sel [0] (by decide) rfl) ?_
    refine ⟨_, _, rfl, rfl, ?_⟩
    subst hau
    exact ⟨b1, _, _, rfl, hp_b1, hs_b1, rfl⟩

end Go.Proofs.YtipnciohgbjjhaaGreat

