/- Walks of Go functions, printed by a program of our own. -/
import Derived.Test.YtffekklhmdoceaaF3
import Derived.Test.YtffekklhmdoceaaQ5
namespace Go.Proofs.Ytffekklhmdoceaa
open Go Go.Eng Go.Pure
set_option linter.unusedVariables false
/-! whorl/whorllaw2.CrcNext -/
set_option maxRecDepth 100000 in
theorem crcNext_ct {w : World} {A_u : Option Addr} {n_u c_u : Nat} {u : List Int} {c : Int} (h_u : Rd w A_u n_u c_u 1 (ints .u8 u)) (bh_u : ByteL u) (hc : 0 ≤ c ∧ c < 256) :
    Ct Try.prog 9 #[.slice A_u n_u c_u, .int .u8 c] w.heap.size w [] (fun v R' => v = .bool true) := by
  obtain rfl := h_u.lenI
  refine fn1 Try.func9 rfl rfl rfl ?_
  have m_u := h_u.max
  refine w_seq ?_
  refine w_reg ?_
  refine wr_y rfl (y_assign rfl) ?_
  refine wr_nil ?_
  refine w_seq ?_
  refine w_seq ?_
  refine w_reg ?_
  refine wr_y rfl (y_move rfl) ?_
  refine wr_y rfl (y_len Try.underlying22 rfl) ?_
  refine wr_y rfl (y_gt rfl rfl) ?_
  refine wr_nil ?_
  refine w_if rfl (fun hc1 => ?_) (fun hc1 => ?_)
  ·
    refine w_seq ?_
    refine w_reg ?_
    refine wr_y rfl (y_assign rfl) ?_
    refine wr_nil ?_
    refine w_ret ?_
    refine ⟨_, rfl, ?_⟩
    rfl
  ·
    refine w_skip ?_
    refine w_seq ?_
    refine w_reg ?_
    refine wr_a rfl (a_callF en19 rfl (Ct.fresh (fun w hw => crcNew_ct))) ?_
    rintro _ _ ⟨_, rfl, g_1, rfl, rfl⟩
    refine wr_y rfl (y_assign rfl) ?_
    refine wr_nil ?_
    refine w_seq ?_
    refine w_seq ?_
    refine w_reg ?_
    refine wr_y rfl (y_move rfl) ?_
    refine wr_y rfl (y_ptrEq Try.underlying31 rfl rfl) ?_
    refine wr_nil ?_
    refine w_false rfl ?_
    refine w_skip ?_
    refine w_seq ?_
    refine w_reg ?_
    refine wr_y rfl (y_move rfl) ?_
    refine wr_y rfl (y_move rfl) ?_
    refine wr_a rfl (a_lit [.slice A_u u.length c_u] Try.underlying45 zs22 rfl rfl rfl rfl) ?_
    rintro _ _ ⟨g_3, rfl, rfl⟩
    refine wr_a rfl (a_callF en20 rfl (Ct.at 1 rfl (crcSum_ct (ls := [u]) (.inl ⟨rfl, rfl, List.length_replicate .., by omega⟩) (rdR 0 (r := ⟨22, 1, (some ⟨g_3, 0, none⟩), 1, 1, [.slice A_u u.length c_u], false⟩) rfl) rfl (SlRd.one (l := u) (h_u.c _) bh_u (by first | rfl | simp | (simp [upd]; done))) (Big.one (by first | omega | decide | simp))))) ?_
    rintro _ _ ⟨rfl, rfl⟩
    refine wr_rows (R1 := [⟨22, 1, (some ⟨g_3, 0, none⟩), 1, 1, [.slice A_u u.length c_u], false⟩, crcRow 67 g_1 1 0 (0 + 1) ctab]) rfl ?_
    refine wr_y rfl (y_notB (p := csum ([u]).flatten) rfl) ?_
    refine wr_y rfl (y_assign rfl) ?_
    refine wr_nil ?_
    refine w_seq ?_
    refine w_reg ?_
    refine wr_y rfl (y_move rfl) ?_
    refine wr_y rfl (y_shrB (k := 8) rfl rfl rfl) ?_
    refine wr_y rfl (y_move rfl) ?_
    refine wr_y rfl (y_conv Try.underlying33 Try.underlying5 rfl) ?_
    refine wr_y rfl (y_move rfl) ?_
    refine wr_y rfl (y_xor8 rfl rfl) ?_
    refine wr_y rfl (y_convI Try.underlying5 Try.underlying3 rfl (by first | omega | exact ⟨by omega, Int.le_trans (Int.le_of_lt (Int.ofNat_lt.2 (BitVec.isLt _))) (by decide)⟩)) ?_
    refine wr_a rfl (a_callF en23 rfl (Ct.quiet (fun w hw => number2_ct))) ?_
    rintro _ _ ⟨rfl, rfl⟩
    refine wr_y rfl (y_xorB rfl rfl) ?_
    refine wr_y rfl (y_notB (p := ((4294967295#32 ^^^ (csum ([u]).flatten)) >>> 8) ^^^ (cnum (BitVec.ofInt 32 ((BitVec.ofInt 8 (IntKind.u8.wrap (bv (4294967295#32 ^^^ (csum ([u]).flatten)))) ^^^ BitVec.ofInt 8 c).toNat : Int)))) rfl) ?_
    refine wr_y rfl (y_assign rfl) ?_
    refine wr_nil ?_
    refine w_seq ?_
    refine w_reg ?_
    refine wr_y rfl (y_move rfl) ?_
    refine wr_y rfl (y_move rfl) ?_
    refine wr_y rfl (y_move rfl) ?_
    refine wr_a rfl (a_litI .u8 [c] Try.underlying22 zs5 rfl rfl rfl) ?_
    rintro _ _ ⟨g_5, rfl, rfl⟩
    refine wr_a rfl (a_lit [.slice A_u u.length c_u, .slice (some ⟨g_5, 0, none⟩) 1 1] Try.underlying45 zs22 rfl rfl rfl rfl) ?_
    rintro _ _ ⟨g_7, rfl, rfl⟩
    refine wr_a rfl (a_callF en20 rfl (Ct.at 3 rfl (crcSum_ct (ls := [u, [c]]) (.inr ⟨rfl, rfl, rfl⟩) (rdR 0 (r := ⟨22, 1, (some ⟨g_7, 0, none⟩), 2, 2, [.slice A_u u.length c_u, .slice (some ⟨g_5, 0, none⟩) 1 1], false⟩) rfl) rfl (SlRd.two (h_u.c _) bh_u (by first | rfl | simp | (simp [upd]; done)) (rdR 1 (r := ⟨5, 1, (some ⟨g_5, 0, none⟩), 1, 1, ints .u8 ([c]), false⟩) rfl) (fun x hx => by obtain rfl := List.mem_singleton.1 hx; exact hc) (by first | rfl | simp | (simp [upd]; done))) (Big.two (by first | omega | decide | simp) (by first | omega | decide | simp))))) ?_
    rintro _ _ ⟨rfl, rfl⟩
    refine wr_rows (R1 := [⟨22, 1, (some ⟨g_7, 0, none⟩), 2, 2, [.slice A_u u.length c_u, .slice (some ⟨g_5, 0, none⟩) 1 1], false⟩, ⟨5, 1, (some ⟨g_5, 0, none⟩), 1, 1, ints .u8 ([c]), false⟩, ⟨22, 1, (some ⟨g_3, 0, none⟩), 1, 1, [.slice A_u u.length c_u], false⟩, crcRow 67 g_1 1 0 (0 + 1) ctab]) rfl ?_
    refine wr_y rfl (y_move rfl) ?_
    refine wr_y rfl (Yl.t (y_eqU (p := csum ([u, [c]]).flatten) (q := 4294967295#32 ^^^ (((4294967295#32 ^^^ (csum ([u]).flatten)) >>> 8) ^^^ (cnum (BitVec.ofInt 32 ((BitVec.ofInt 8 (IntKind.u8.wrap (bv (4294967295#32 ^^^ (csum ([u]).flatten)))) ^^^ BitVec.ofInt 8 c).toNat : Int))))) rfl rfl) (crc_next hc)) ?_
    refine wr_y rfl (y_move rfl) ?_
    refine wr_yes rfl rfl ?_
    refine wr_a rfl (a_callF en22 rfl (Ct.quiet (fun w hw => known2_ct))) ?_
    rintro _ _ ⟨rfl, rfl⟩
    refine wr_y rfl (y_pickT rfl rfl) ?_
    refine wr_y rfl (y_assign rfl) ?_
    refine wr_nil ?_
    refine w_retR (R1 := []) (fun _ h => h.sel [] (by decide) rfl) ?_
    refine ⟨_, rfl, ?_⟩
    rfl

/-! whorl/whorllaw2.CrcTurned -/
set_option maxRecDepth 100000 in
theorem crcTurned_ct {w : World} {A_u : Option Addr} {n_u c_u : Nat} {u : List Int} {at_ : Int} {q : Int} (h_u : Rd w A_u n_u c_u 1 (ints .u8 u)) (bh_u : ByteL u) (hq : 0 ≤ q ∧ q < 256) :
    Ct Try.prog 8 #[.slice A_u n_u c_u, .int .i64 at_, .int .u8 q] w.heap.size w [] (fun v R' => v = .bool true) := by
  obtain rfl := h_u.lenI
  refine fn1 Try.func8 rfl rfl rfl ?_
  have m_u := h_u.max
  refine w_seq ?_
  refine w_reg ?_
  refine wr_y rfl (y_assign rfl) ?_
  refine wr_nil ?_
  refine w_seq ?_
  refine w_seq ?_
  refine w_reg ?_
  refine wr_y rfl (y_move rfl) ?_
  refine wr_y rfl (y_len Try.underlying22 rfl) ?_
  refine wr_y rfl (y_lt rfl rfl) ?_
  refine wr_y rfl (y_move rfl) ?_
  refine wr_mid 4 [(0, .slice A_u u.length c_u), (1, .int .i64 at_), (2, .int .u8 q), (16, .bool (decide ((((u.length : Nat) : Int) < 1) ∨ (500 < ((u.length : Nat) : Int)))))] [] ?_ ?_
  ·
    refine wr_case 12 rfl (fun hc1 => ?_) (fun hc1 => ?_)
    ·
      refine wr_no rfl rfl rfl rfl ?_
      refine wr_no rfl rfl rfl rfl ?_
      refine wr_no rfl rfl rfl rfl ?_
      refine wr_y rfl (y_pickT rfl rfl) ?_
      refine wr_nil ?_
      exact ⟨(Sub.cons rfl (Sub.cons rfl (Sub.cons rfl (Sub.to rfl (mb_t (by first | omega | simp [*])) Sub.nil)))), fun _ h => h⟩
    ·
      refine wr_yes rfl rfl ?_
      refine wr_y rfl (y_move rfl) ?_
      refine wr_yes rfl rfl ?_
      refine wr_y rfl (y_len Try.underlying22 rfl) ?_
      refine wr_yes rfl rfl ?_
      refine wr_y rfl (y_gt rfl rfl) ?_
      refine wr_y rfl (y_pickF rfl rfl) ?_
      refine wr_nil ?_
      exact ⟨(Sub.cons rfl (Sub.cons rfl (Sub.cons rfl (Sub.to rfl (mb (by first | omega | simp [*])) Sub.nil)))), fun _ h => h⟩
  refine wr_y rfl (y_move rfl) ?_
  refine wr_mid 3 [(0, .slice A_u u.length c_u), (1, .int .i64 at_), (2, .int .u8 q), (20, .bool (decide (((((u.length : Nat) : Int) < 1) ∨ (500 < ((u.length : Nat) : Int))) ∨ (q = 0))))] [] ?_ ?_
  ·
    refine wr_case 17 rfl (fun hc2 => ?_) (fun hc2 => ?_)
    ·
      refine wr_no rfl rfl rfl rfl ?_
      refine wr_no rfl rfl rfl rfl ?_
      refine wr_y rfl (y_pickT rfl rfl) ?_
      refine wr_nil ?_
      exact ⟨(Sub.cons rfl (Sub.cons rfl (Sub.cons rfl (Sub.to rfl (mb_t (by first | omega | simp [*])) Sub.nil)))), fun _ h => h⟩
    ·
      refine wr_yes rfl rfl ?_
      refine wr_y rfl (y_move rfl) ?_
      refine wr_yes rfl rfl ?_
      refine wr_y rfl (y_eq rfl rfl) ?_
      refine wr_y rfl (y_pickF rfl rfl) ?_
      refine wr_nil ?_
      exact ⟨(Sub.cons rfl (Sub.cons rfl (Sub.cons rfl (Sub.to rfl (mb (by first | omega | simp [*])) Sub.nil)))), fun _ h => h⟩
  refine wr_nil ?_
  refine w_if rfl (fun hc3 => ?_) (fun hc3 => ?_)
  ·
    refine w_seq ?_
    refine w_reg ?_
    refine wr_y rfl (y_assign rfl) ?_
    refine wr_nil ?_
    refine w_ret ?_
    refine ⟨_, rfl, ?_⟩
    rfl
  ·
    refine w_skip ?_
    refine w_seq ?_
    refine w_reg ?_
    refine wr_a rfl (a_callF en19 rfl (Ct.fresh (fun w hw => crcNew_ct))) ?_
    rintro _ _ ⟨_, rfl, g_1, rfl, rfl⟩
    refine wr_y rfl (y_assign rfl) ?_
    refine wr_nil ?_
    refine w_seq ?_
    refine w_seq ?_
    refine w_reg ?_
    refine wr_y rfl (y_move rfl) ?_
    refine wr_y rfl (y_ptrEq Try.underlying31 rfl rfl) ?_
    refine wr_nil ?_
    refine w_false rfl ?_
    refine w_skip ?_
    refine w_seq ?_
    refine w_reg ?_
    refine wr_a rfl (a_litI .u8 [] Try.underlying22 zs5 rfl rfl rfl) ?_
    rintro _ _ ⟨g_3, rfl, rfl⟩
    refine wr_y rfl (y_move rfl) ?_
    refine wr_a rfl (a_appendI 0 rfl Try.underlying22 zb5 rfl rfl rfl (h_u.c _) (by first | omega | exact Int.emod_nonneg _ (by omega) | exact Int.emod_lt_of_pos _ (by omega))) ?_
    rintro _ _ ⟨A_4, c_5, rfl, rfl⟩
    refine wr_rows (R1 := [⟨5, 1, A_4, (0 + u.length), c_5, ints .u8 (([]) ++ u), false⟩, crcRow 67 g_1 0 0 0 (List.replicate 256 0)]) rfl ?_
    refine wr_as (v := .slice A_4 (0 + u.length) c_5) rfl ?_
    refine wr_y rfl (y_assign rfl) ?_
    refine wr_nil ?_
    refine w_seq ?_
    refine w_reg ?_
    refine wr_y rfl (y_move rfl) ?_
    refine wr_y rfl (y_move rfl) ?_
    refine wr_y rfl (y_andM (m := 65535) rfl rfl) ?_
    refine wr_y rfl (y_move rfl) ?_
    refine wr_y rfl (y_len Try.underlying22 rfl) ?_
    refine wr_y rfl (y_rem rfl rfl (by first | omega | (rw [Nat.zero_add]; omega)) (by first | omega | (rw [Nat.zero_add]; omega))) ?_
    refine wr_y rfl (y_index1 Try.underlying22 sz5 rfl rfl (rdr 0 rfl) (by first | omega | exact Int.emod_nonneg _ (by omega) | exact Int.emod_lt_of_pos _ (by omega)) (by first | omega | exact Int.emod_nonneg _ (by omega) | exact Int.emod_lt_of_pos _ (by omega))) ?_
    refine wr_y rfl (y_ldI Try.underlying5 rfl rfl (rdr 0 rfl) (by first | omega | exact Int.emod_nonneg _ (by omega) | exact Int.emod_lt_of_pos _ (by omega)) (by first | omega | exact Int.emod_nonneg _ (by omega) | exact Int.emod_lt_of_pos _ (by omega))) ?_
    refine wr_y rfl (y_move rfl) ?_
    refine wr_y rfl (y_xor8 rfl rfl) ?_
    refine wr_y rfl (y_index1 Try.underlying22 sz5 rfl rfl (rdr 0 rfl) (by first | omega | exact Int.emod_nonneg _ (by omega) | exact Int.emod_lt_of_pos _ (by omega)) (by first | omega | exact Int.emod_nonneg _ (by omega) | exact Int.emod_lt_of_pos _ (by omega))) ?_
    refine wr_n (a_storeI 0 rfl sz5 rfl rfl (by first | omega | exact Int.emod_nonneg _ (by omega) | exact Int.emod_lt_of_pos _ (by omega)) (by first | omega | exact Int.emod_nonneg _ (by omega) | exact Int.emod_lt_of_pos _ (by omega))) ?_
    rintro _ _ rfl
    refine wr_rows (R1 := [⟨5, 1, A_4, (0 + u.length), c_5, ints .u8 (upd (([]) ++ u) (((BitVec.ofInt 64 at_ &&& 65535#64).toNat : Int) % ((0 + u.length : Nat) : Int)) ((BitVec.ofInt 8 (rd (([]) ++ u) (((BitVec.ofInt 64 at_ &&& 65535#64).toNat : Int) % ((0 + u.length : Nat) : Int))) ^^^ BitVec.ofInt 8 q).toNat : Int)), false⟩, crcRow 67 g_1 0 0 0 (List.replicate 256 0)]) rfl ?_
    refine wr_nil ?_
    refine w_seq ?_
    refine w_reg ?_
    refine wr_y rfl (y_move rfl) ?_
    refine wr_y rfl (y_move rfl) ?_
    refine wr_a rfl (a_lit [.slice A_4 (0 + u.length) c_5] Try.underlying45 zs22 rfl rfl rfl rfl) ?_
    rintro _ _ ⟨g_7, rfl, rfl⟩
    refine wr_a rfl (a_callF en20 rfl (Ct.at 2 rfl (crcSum_ct (ls := [upd (([]) ++ u) (((BitVec.ofInt 64 at_ &&& 65535#64).toNat : Int) % ((0 + u.length : Nat) : Int)) ((BitVec.ofInt 8 (rd (([]) ++ u) (((BitVec.ofInt 64 at_ &&& 65535#64).toNat : Int) % ((0 + u.length : Nat) : Int))) ^^^ BitVec.ofInt 8 q).toNat : Int)]) (.inl ⟨rfl, rfl, List.length_replicate .., by omega⟩) (rdR 0 (r := ⟨22, 1, (some ⟨g_7, 0, none⟩), 1, 1, [.slice A_4 (0 + u.length) c_5], false⟩) rfl) rfl (SlRd.one (l := upd (([]) ++ u) (((BitVec.ofInt 64 at_ &&& 65535#64).toNat : Int) % ((0 + u.length : Nat) : Int)) ((BitVec.ofInt 8 (rd (([]) ++ u) (((BitVec.ofInt 64 at_ &&& 65535#64).toNat : Int) % ((0 + u.length : Nat) : Int))) ^^^ BitVec.ofInt 8 q).toNat : Int)) (rdR 1 (r := ⟨5, 1, A_4, (0 + u.length), c_5, ints .u8 (upd (([]) ++ u) (((BitVec.ofInt 64 at_ &&& 65535#64).toNat : Int) % ((0 + u.length : Nat) : Int)) ((BitVec.ofInt 8 (rd (([]) ++ u) (((BitVec.ofInt 64 at_ &&& 65535#64).toNat : Int) % ((0 + u.length : Nat) : Int))) ^^^ BitVec.ofInt 8 q).toNat : Int)), false⟩) rfl) (upd_bytes (u := [] ++ u) bh_u (x8_byte _ _)) (by rw [upd, List.length_set, List.length_append]; rfl)) (Big.one (by rw [upd, List.length_set, List.nil_append]; omega))))) ?_
    rintro _ _ ⟨rfl, rfl⟩
    refine wr_rows (R1 := [⟨22, 1, (some ⟨g_7, 0, none⟩), 1, 1, [.slice A_4 (0 + u.length) c_5], false⟩, ⟨5, 1, A_4, (0 + u.length), c_5, ints .u8 (upd (([]) ++ u) (((BitVec.ofInt 64 at_ &&& 65535#64).toNat : Int) % ((0 + u.length : Nat) : Int)) ((BitVec.ofInt 8 (rd (([]) ++ u) (((BitVec.ofInt 64 at_ &&& 65535#64).toNat : Int) % ((0 + u.length : Nat) : Int))) ^^^ BitVec.ofInt 8 q).toNat : Int)), false⟩, crcRow 67 g_1 1 0 (0 + 1) ctab]) rfl ?_
    refine wr_y rfl (y_move rfl) ?_
    refine wr_y rfl (y_move rfl) ?_
    refine wr_a rfl (a_lit [.slice A_u u.length c_u] Try.underlying45 zs22 rfl rfl rfl rfl) ?_
    rintro _ _ ⟨g_9, rfl, rfl⟩
    refine wr_a rfl (a_callF en20 rfl (Ct.at 3 rfl (crcSum_ct (ls := [u]) (.inr ⟨rfl, rfl, rfl⟩) (rdR 0 (r := ⟨22, 1, (some ⟨g_9, 0, none⟩), 1, 1, [.slice A_u u.length c_u], false⟩) rfl) rfl (SlRd.one (l := u) (h_u.c _) bh_u (by first | rfl | simp | (simp [upd]; done))) (Big.one (by first | omega | decide | simp))))) ?_
    rintro _ _ ⟨rfl, rfl⟩
    refine wr_rows (R1 := [⟨22, 1, (some ⟨g_9, 0, none⟩), 1, 1, [.slice A_u u.length c_u], false⟩, ⟨22, 1, (some ⟨g_7, 0, none⟩), 1, 1, [.slice A_4 (0 + u.length) c_5], false⟩, ⟨5, 1, A_4, (0 + u.length), c_5, ints .u8 (upd (([]) ++ u) (((BitVec.ofInt 64 at_ &&& 65535#64).toNat : Int) % ((0 + u.length : Nat) : Int)) ((BitVec.ofInt 8 (rd (([]) ++ u) (((BitVec.ofInt 64 at_ &&& 65535#64).toNat : Int) % ((0 + u.length : Nat) : Int))) ^^^ BitVec.ofInt 8 q).toNat : Int)), false⟩, crcRow 67 g_1 1 0 (0 + 1) ctab]) rfl ?_
    refine wr_y rfl (Yl.t (y_neU (p := csum ([upd (([]) ++ u) (((BitVec.ofInt 64 at_ &&& 65535#64).toNat : Int) % ((0 + u.length : Nat) : Int)) ((BitVec.ofInt 8 (rd (([]) ++ u) (((BitVec.ofInt 64 at_ &&& 65535#64).toNat : Int) % ((0 + u.length : Nat) : Int))) ^^^ BitVec.ofInt 8 q).toNat : Int)]).flatten) (q := csum ([u]).flatten) rfl rfl) (csum_upd (u := [] ++ u) bh_u (Int.emod_nonneg _ (by omega)) (by have := Int.emod_lt_of_pos ((BitVec.ofInt 64 at_ &&& 65535#64).toNat : Int) (show (0 : Int) < ((0 + u.length : Nat) : Int) by omega); rw [List.nil_append]; omega) hq (by omega))) ?_
    refine wr_y rfl (y_move rfl) ?_
    refine wr_yes rfl rfl ?_
    refine wr_a rfl (a_callF en22 rfl (Ct.quiet (fun w hw => known2_ct))) ?_
    rintro _ _ ⟨rfl, rfl⟩
    refine wr_y rfl (y_pickT rfl rfl) ?_
    refine wr_y rfl (y_assign rfl) ?_
    refine wr_nil ?_
    refine w_retR (R1 := []) (fun _ h => h.sel [] (by decide) rfl) ?_
    refine ⟨_, rfl, ?_⟩
    rfl

end Go.Proofs.Ytffekklhmdoceaa
